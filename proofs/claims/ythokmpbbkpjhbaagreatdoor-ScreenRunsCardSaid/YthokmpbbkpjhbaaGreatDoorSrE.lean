/- Parts of the proofs of ScreenRuns: the walk through the code, and plain Lean. No condition. -/
import Derived.Test.YthokmpbbkpjhbaaGreatDoorSrD
import Derived.Test.YthokmpbbkpjhbaaGreatDoorSrC
import Derived.KernelRfl
import Derived.Test.YthokmpbbkpjhbaaGreatDoorSrA
import Derived.Test.YthokmpbbkpjhbaaGreatDoorSrB
set_option linter.unusedVariables false
set_option linter.unusedSimpArgs false
namespace Go.Proofs.YthokmpbbkpjhbaaGreatDoor
open Go Go.Lt
set_option maxRecDepth 100000
def gT:List (Int×Int×Int):=match mH with | some t=>t | none=>[]
def pT:List (Int×Int):=match lI with | some t=>t | none=>[]
def cT:List (Int×Int×Int):=match lO with | some t=>t | none=>[]
def eT:List (Int×Int×Int):=match lM with | some t=>t | none=>[]
theorem Hn:mH=some gT:=rfl
theorem Hb:lI=some pT:=rfl
theorem Hw:lO=some cT:=rfl
theorem Hq:lM=some eT:=rfl
theorem Gb:sI (fun x=>x.1) (fun x=>x.2.1) gT=true:=by kernel_rfl
theorem G9:sI (fun x=>x.1) (fun x=>x.2) pT=true:=by kernel_rfl
theorem Gq:sI (fun x=>x.1) (fun x=>x.2.1) cT=true:=by kernel_rfl
theorem Gh:sI (fun x=>x.1) (fun x=>x.2.1) eT=true:=by kernel_rfl
theorem Gd:gT.length≤1000000:=by
 have:Nat.ble gT.length 1000000=true:=by kernel_rfl
 exact bN this
theorem FR:pT.length≤1000000:=by
 have:Nat.ble pT.length 1000000=true:=by kernel_rfl
 exact bN this
theorem Gs:cT.length≤1000000:=by
 have:Nat.ble cT.length 1000000=true:=by kernel_rfl
 exact bN this
theorem Gi:eT.length≤1000000:=by
 have:Nat.ble eT.length 1000000=true:=by kernel_rfl
 exact bN this
theorem HU:gT.all (fun x=>decide (1≤x.2.2) && decide (x.2.2≤8))=true:=by kernel_rfl
theorem HY:cT.all (fun x=>decide (1≤x.2.2) && decide (x.2.2≤3))=true:=by kernel_rfl
theorem HW:eT.all (fun x=>decide (1≤x.2.2) && decide (x.2.2≤3))=true:=by kernel_rfl
def hcl (r:Int):Int:=
 if (4352≤r∧r≤4447)∨(43360≤r∧r≤43388) then 9
 else if (4448≤r∧r≤4519)∨(55216≤r∧r≤55238) then 10
 else if (4520≤r∧r≤4607)∨(55243≤r∧r≤55291) then 11
 else if r < 44032∨55203 < r then 0
 else if (r - 44032) % 28=0 then 12 else 13
def r32 (r:Int):Prop:= -2147483648≤r∧r≤2147483647
theorem r32.w {r:Int} (h:r32 r):w64 r=r:=by unfold r32 at h; exact aF (by omega)
theorem pF {α:Type} {b:Bool} {p:Prop} [Decidable p] (h:b=true↔p) (x y:α):(if b=true then x else y)=if p then x else y:=by
 by_cases hp:p
 ·rw [ae hp,ae (h.2 hp)]
 ·rw [af hp,af (fun e=>hp (h.1 e))]
theorem sJ {α:Type} {p:Prop} [Decidable p] (x y:α):(if p then some x else some y)=some (if p then x else y):=by split <;> rfl
theorem sY (r:Int) (h:r32 r):kj r=some (hcl r):=by
 unfold r32 at h;unfold kj jW gM hcl;simp only [aZ,bsm,br];have hw:44032≤r→r≤55203→(w32 (r - 44032)).tmod 28=(r - 44032) % 28:=fun h1 h2=>by
  rw [xd (by omega),DU (by omega)]
 rw [pF (p:=(4352≤r∧r≤4447)∨(43360≤r∧r≤43388)) (by simp),pF (p:=(4448≤r∧r≤4519)∨(55216≤r∧r≤55238)) (by simp),pF (p:=(4520≤r∧r≤4607)∨(55243≤r∧r≤55291)) (by simp)];rw [pF (p:=r < 44032∨55203 < r) (by simp)];by_cases hs:r < 44032∨55203 < r
 ·simp only [ae hs,sJ]
 ·simp only [af hs];rw [hw (by omega) (by omega)];rw [pF (p:=(r - 44032) % 28=0) (by simp)];simp only [sJ]
theorem Bs (r:Int) (h1:44032≤r) (h2:r≤55203):∃x,dw r=some x∧(x.1≠0∧(x.2.2=0↔(r - 44032) % 28=0)):=by
 have hw:w64 r=r:=aF (by omega);unfold dw;simp only [hw,br,bsm];rw [af (by simp; omega)];refine wU (fun q=>∃i:Nat,i≤19∧q=((44032+588 * (i:Int),4352+(i:Int)):Int×Int)∧44032+588 * (i:Int)≤r) (fun q=>(4371 - q.2).toNat)
  (fun t=>∃x:Int×Int×Int,t= .inl x∧(x.1≠0∧(x.2.2=0↔(r - 44032) % 28=0))) ?_ ⟨0,by omega,by simp,by omega⟩ (by simp only; omega) ?_
 ·rintro q ⟨i,hi,rfl,hir⟩;by_cases hi2:i=19
  ·subst hi2;omega
  dsimp only
  rw [ae (by simp; omega)];refine E1 (fun t=>(∃x:Int×Int×Int,t= .inl x∧(x.1≠0∧(x.2.2=0↔(r - 44032) % 28=0)))∨(t= .inr (44032+588 * ((i+1:Nat):Int))∧44032+588 * ((i+1:Nat):Int)≤r))
   (lG (fun q=>∃j:Nat,j≤21∧q=((44032+588 * (i:Int)+28 * (j:Int),4449+(j:Int)):Int×Int)∧44032+588 * (i:Int)+28 * (j:Int)≤r) (fun q=>(4470 - q.2).toNat) _ ?_ _ _ ⟨0,by omega,by simp,by omega⟩ (by simp only; omega)) ?_
  ·rintro q ⟨j,hj,rfl,hjr⟩
   dsimp only
   by_cases hj2:j=21
   ·subst hj2
    right
    refine ⟨.inr (44032+588 * ((i+1:Nat):Int)),?_,.inr ⟨rfl,by omega⟩⟩;rw [af (by simp),show (44032+588 * (i:Int)+28 * ((21:Nat):Int))=44032+588 * ((i+1:Nat):Int) by omega]
   ·rw [ae (by simp; omega),aF (by omega)];by_cases hlt:r < 44032+588 * (i:Int)+28 * (j:Int)+28
    ·right
     rw [ae (by simpa using hlt)];rw [show w64 (4519+r)=4519+r from aF (by omega),aF (by omega)];by_cases hz:4519+r - (44032+588 * (i:Int)+28 * (j:Int))=4519
     ·rw [ae (by simpa using hz)];exact ⟨_,rfl,.inl ⟨_,rfl,by show 4352+(i:Int)≠0; omega,by show (0:Int)=0↔_; simp; omega⟩⟩
     ·rw [af (by simpa using hz)];exact ⟨_,rfl,.inl ⟨_,rfl,by show 4352+(i:Int)≠0; omega,by show 4519+r - (44032+588 * (i:Int)+28 * (j:Int))=0↔_; omega⟩⟩
    ·left
     rw [af (by simpa using hlt),aF (by omega)];exact ⟨_,rfl,⟨j+1,by omega,by simp only [gS]; omega,by omega⟩,by omega⟩
  ·rintro t (⟨x,rfl,hx⟩ | ⟨rfl,hx⟩)
   ·exact .inr ⟨_,rfl,x,rfl,hx⟩
   ·refine .inl ⟨_,rfl,⟨i+1,by omega,?_,by omega⟩,?_⟩
    ·rw [aF (by omega)];exact Prod.ext rfl (by show 4352+(i:Int)+1=4352+((i+1:Nat):Int); omega)
    ·rw [aF (by omega)];omega
 ·rintro t ⟨x,rfl,hx⟩;exact ⟨x,rfl,hx⟩
theorem Bu (r:Int) (h:r32 r):ep r=some (hcl r):=by
 have hw:=h.w;unfold r32 at h;unfold ep hcl;simp only [hw,aZ,bsm,br];rw [pF (p:=(4352≤r∧r≤4447)∨(43360≤r∧r≤43388)) (by simp),pF (p:=(4448≤r∧r≤4519)∨(55216≤r∧r≤55238)) (by simp),pF (p:=(4520≤r∧r≤4607)∨(55243≤r∧r≤55291)) (by simp)];by_cases hs:r < 44032∨55203 < r
 ·have:dw r=some (0,0,0):=by
   unfold dw;simp only [hw,br,bsm];rw [ae (by simpa using hs)]
  rw [this];simp only [bsm,ae hs,sJ];rfl
 ·obtain ⟨⟨l,v,t⟩,e1,e2,e3⟩:=Bs r (by omega) (by omega);have e2':(l==0)=false:=by simpa using e2
  rw [e1];simp only [bsm,e2',aj,aU,af hs];rw [pF (b:=t==0) (p:=(r - 44032) % 28=0) (by simpa using e3)];simp only [sJ]
theorem xq (l:List (Int×Int)) (hl:l.length≤1000000) (r:Int) (h:r32 r):dK l r=some (wj l r):=by
 have hw:=h.w;unfold dK;simp only [hw];have key:cE (σ:=Int) (τ:=Bool ⊕ Unit) (((l.length:Int) - 0).toNat+1) (fun s_5=>
   if (decide (s_5 < (l.length:Int)))=true then
   (idx l s_5).bind fun x_15=>
   (bI (decide (r≥x_15.1)) ((idx l s_5).bind fun x_25=>
   some (decide (r≤x_25.2)))).bind fun d_19=>
   if d_19=true then
   some (.inr (.inl true))
   else
   some (.inl ((w64 (s_5+1))))
   else
   some (.inr (.inr ()))) (0)=some (if wj l r=true then .inl true else .inr ()):=by
  refine pi (fun s=>∃k:Nat,s=(k:Int)∧k≤l.length∧(l.take k).any (onn (fun x=>x.1) (fun x=>x.2) r)=false) (fun s=>((l.length:Int) - s).toNat) ?_ ⟨0,rfl,cG _,by simp⟩ (by omega);rintro s ⟨k,rfl,hk,hno⟩;rcases aO k l.length with hlt | hge
  ·have e1:(l.take (k+1)).any (onn (fun x=>x.1) (fun x=>x.2) r)=((l.take k).any (onn (fun x=>x.1) (fun x=>x.2) r) || onn (fun x=>x.1) (fun x=>x.2) r l[k]):=by
    rw [av hlt,List.any_append];simp
   simp only [dlt hlt,bm,bc hlt,bsm,aZ];have e2:(decide (r≥l[k].1) && decide (r≤l[k].2))=onn (fun x:Int×Int=>x.1) (fun x=>x.2) r l[k]:=rfl;rw [e2]
   cases hb:onn (fun x:Int×Int=>x.1) (fun x=>x.2) r l[k] with
   | true=>
    right
    have:wj l r=true:=by
     unfold wj;rw [As];exact ⟨_,aG hlt,hb⟩
    rw [ae this];rfl
   | false=>
    left
    rw [er hlt (by omega)];exact ⟨_,rfl,⟨k+1,rfl,hlt,by rw [e1,hno,hb]; rfl⟩,by omega⟩
  ·obtain rfl:k=l.length:=by omega
   right
   rw [om] at hno;simp only [dnl,aj,aU];rw [show wj l r=false from hno];rfl
 rw [key]
 cases wj l r <;> rfl
theorem Hm:(match iI,iH,iG,iF,iE,iD,iC,iB with
 | some a,some b,some c,some d,some e,some f,some g,some h=>[a,b,c,d,e,f,g,h]== [ofv gT 1,ofv gT 2,ofv gT 3,ofv gT 4,ofv gT 5,ofv gT 6,ofv gT 7,ofv gT 8] | _,_,_,_,_,_,_,_=>false)=true:=by kernel_rfl
theorem Hv:(match iA,iz,iy with
 | some a,some b,some c=>[a,b,c]== [ofv cT 1,ofv cT 2,ofv cT 3] | _,_,_=>false)=true:=by kernel_rfl
theorem Hp:(match iw,iv,iu with
 | some a,some b,some c=>[a,b,c]== [ofv eT 1,ofv eT 2,ofv eT 3] | _,_,_=>false)=true:=by kernel_rfl
theorem Ha:(iV==some pT)=true:=by kernel_rfl
theorem xv (T:List (Int×Int×Int)) (v:Int):(ofv T v).length≤T.length:=by
 unfold ofv;rw [db];exact uJ _ _
theorem G6 (r:Int) (h:r32 r):ig r=some ((lk gT r).getD (hcl r)):=by
 have hl:=Hm;unfold ig;split at hl
 ·rename_i a b c d e f g hh ea eb ec ed ee ef eg eh
  rw [ea,eb,ec,ed,ee,ef,eg,eh];simp only [bsm];have hl2:=eq_of_beq hl;rw [hl2];refine tS (n:=8) (by decide) (v:=lk gT r) (fun k hk=>?_) (by rfl) (fun x hx=>?_) rfl ?_
  ·have hi:idx ([ofv gT 1,ofv gT 2,ofv gT 3,ofv gT 4,ofv gT 5,ofv gT 6,ofv gT 7,ofv gT 8]:List (List (Int×Int))) (k:Int)=some (ofv gT ((k:Int)+1)):=by
    rw [uO]
    match k,hk with
    | 0,_=>rfl
    | 1,_=>rfl
    | 2,_=>rfl
    | 3,_=>rfl
    | 4,_=>rfl
    | 5,_=>rfl
    | 6,_=>rfl
    | 7,_=>rfl
   simp only [hi,bsm];rw [ae (by simp; omega),xq _ (dA (xv _ _) Gd) r h,xz Gb,aF (by omega)];simp only [bsm];rw [pF (p:=lk gT r=some ((k:Int)+1)) (by simp)];rfl
  ·have:=C5 (p:=fun v=>decide (1≤v) && decide (v≤8)) HU hx;simpa using this
  ·cases lk gT r with
   | none=>show ((ep r).bind fun o=>some o)=_; rw [Bu r h]; rfl
   | some x=>rfl
 ·cases hl
theorem G3 (r:Int) (h:r32 r):ib r=some ((lk cT r).getD 0):=by
 have hl:=Hv;unfold ib;split at hl
 ·rename_i a b c ea eb ec
  rw [ea,eb,ec];simp only [bsm];have hl2:=eq_of_beq hl;rw [hl2];refine tS (n:=3) (by decide) (v:=lk cT r) (fun k hk=>?_) (by rfl) (fun x hx=>?_) rfl ?_
  ·have hi:idx ([ofv cT 1,ofv cT 2,ofv cT 3]:List (List (Int×Int))) (k:Int)=some (ofv cT ((k:Int)+1)):=by
    rw [uO]
    match k,hk with
    | 0,_=>rfl
    | 1,_=>rfl
    | 2,_=>rfl
   simp only [hi,bsm];rw [ae (by simp; omega),xq _ (dA (xv _ _) Gs) r h,xz Gq,aF (by omega)];simp only [bsm];rw [pF (p:=lk cT r=some ((k:Int)+1)) (by simp)];rfl
  ·have:=C5 (p:=fun v=>decide (1≤v) && decide (v≤3)) HY hx;simpa using this
  ·cases lk cT r <;> rfl
 ·cases hl
theorem G2 (r:Int) (h:r32 r):hU r=some ((lk eT r).getD 0):=by
 have hl:=Hp;unfold hU;split at hl
 ·rename_i a b c ea eb ec
  rw [ea,eb,ec];simp only [bsm];have hl2:=eq_of_beq hl;rw [hl2];refine tS (n:=3) (by decide) (v:=lk eT r) (fun k hk=>?_) (by rfl) (fun x hx=>?_) rfl ?_
  ·have hi:idx ([ofv eT 1,ofv eT 2,ofv eT 3]:List (List (Int×Int))) (k:Int)=some (ofv eT ((k:Int)+1)):=by
    rw [uO]
    match k,hk with
    | 0,_=>rfl
    | 1,_=>rfl
    | 2,_=>rfl
   simp only [hi,bsm];rw [ae (by simp; omega),xq _ (dA (xv _ _) Gi) r h,xz Gh,aF (by omega)];simp only [bsm];rw [pF (p:=lk eT r=some ((k:Int)+1)) (by simp)];rfl
  ·have:=C5 (p:=fun v=>decide (1≤v) && decide (v≤3)) HW hx;simpa using this
  ·cases lk eT r <;> rfl
 ·cases hl
def pic (r:Int):Bool:=(fnd (fun x:Int×Int=>x.1) (fun x=>x.2) pT r).isSome
theorem EJ (r:Int):wj pT r=pic r:=by
 unfold wj pic fnd;rw [ci,List.find?_isSome,As]
theorem G5 (r:Int) (h:r32 r):ic r=some (pic r):=by
 unfold ic;rw [eq_of_beq Ha];simp only [bsm];rw [xq _ FR r h,EJ];rfl
def pr (r:Int):ax:=⟨(lk gT r).getD (hcl r),pic r,(lk cT r).getD 0,(lk eT r).getD 0⟩
theorem G1 (r:Int) (h:r32 r):dJ r=some (pr r):=by
 unfold dJ;rw [G6 r h,G5 r h,G3 r h,G2 r h];rfl
theorem qw {a b n:Nat} (h:a < b) (hb:b≤n):(a+b) / 2 < n:=by omega
theorem F9 (r:Int) (h:r32 r):qy r=some ((lk gT r).getD (hcl r)):=by
 have hw:=h.w;have hlen:=Gd;unfold qy;rw [Hn];simp only [bsm];obtain ⟨i,e1,e2,e3,e4⟩:=qX Gb Gd r (step:=fun s_7=>
  if (decide (s_7.1 < s_7.2))=true then
  (ns (w64 ((IntKind.u64.wrap (w64 (s_7.1+s_7.2))).fdiv (2 ^ 1))) gT r).bind fun x_22=>
  if (!x_22)=true then
  some (.inl ((w64 ((w64 ((IntKind.u64.wrap (w64 (s_7.1+s_7.2))).fdiv (2 ^ 1)))+1)),s_7.2))
  else
  some (.inl (s_7.1,(w64 ((IntKind.u64.wrap (w64 (s_7.1+s_7.2))).fdiv (2 ^ 1)))))
  else
  some (.inr (s_7.1))) (fun a b hab hb=>by
   simp only;rw [ae (by simp; omega),EK (by omega)];unfold ns;rw [bc (qw hab hb),hw];simp only [bsm];by_cases hr:r≤(gT[(a+b) / 2]'(qw hab hb)).2.1
   ·rw [af (by simpa using hr),ae hr]
   ·rw [ae (by simpa using hr),af hr,aF (by omega)];rfl) (fun a=>by simp only; rw [af (by simp)])
 unfold gk;rw [e1];simp only [bsm,hw];have hf:=xD Gb e3 e4;unfold lk;rw [hf];by_cases hi:i < gT.length
 ·rw [tY hi,bc hi];simp only [bsm,aZ];by_cases hlo:gT[i].1≤r
  ·rw [ae (by simp; exact ⟨hi,hlo⟩),ae hlo];rfl
  ·rw [af (by simp; omega),af hlo,sY r h];rfl
 ·rw [wd hi,show decide ((i:Int) < (gT.length:Int))=false by simp; omega,gt];simp only [bsm];rw [af (by decide),sY r h];rfl
theorem EX (r:Int) (h:r32 r):oK r=some ((lk cT r).getD 0):=by
 have hw:=h.w;have hlen:=Gs;unfold oK;rw [Hw];simp only [bsm];obtain ⟨i,e1,e2,e3,e4⟩:=qX Gq Gs r (step:=fun s_7=>
  if (decide (s_7.1 < s_7.2))=true then
  (mM (w64 ((IntKind.u64.wrap (w64 (s_7.1+s_7.2))).fdiv (2 ^ 1))) cT r).bind fun x_22=>
  if (!x_22)=true then
  some (.inl ((w64 ((w64 ((IntKind.u64.wrap (w64 (s_7.1+s_7.2))).fdiv (2 ^ 1)))+1)),s_7.2))
  else
  some (.inl (s_7.1,(w64 ((IntKind.u64.wrap (w64 (s_7.1+s_7.2))).fdiv (2 ^ 1)))))
  else
  some (.inr (s_7.1))) (fun a b hab hb=>by
   simp only;rw [ae (by simp; omega),EK (by omega)];unfold mM;rw [bc (qw hab hb),hw];simp only [bsm];by_cases hr:r≤(cT[(a+b) / 2]'(qw hab hb)).2.1
   ·rw [af (by simpa using hr),ae hr]
   ·rw [ae (by simpa using hr),af hr,aF (by omega)];rfl) (fun a=>by simp only; rw [af (by simp)])
 unfold fP;rw [e1];simp only [bsm,hw];have hf:=xD Gq e3 e4;unfold lk;rw [hf];by_cases hi:i < cT.length
 ·rw [tY hi,bc hi];simp only [bsm,br];by_cases hlo:cT[i].1≤r
  ·rw [af (by simp; omega),ae hlo];rfl
  ·rw [ae (by simp; omega),af hlo];rfl
 ·rw [wd hi,show ((i:Int)==(cT.length:Int))=true by simp; omega,yC];simp only [bsm];rw [ae trivial];rfl
theorem EQ (r:Int) (h:r32 r):oI r=some ((lk eT r).getD 0):=by
 have hw:=h.w;have hlen:=Gi;unfold oI;rw [Hq];simp only [bsm];obtain ⟨i,e1,e2,e3,e4⟩:=qX Gh Gi r (step:=fun s_7=>
  if (decide (s_7.1 < s_7.2))=true then
  (mL (w64 ((IntKind.u64.wrap (w64 (s_7.1+s_7.2))).fdiv (2 ^ 1))) eT r).bind fun x_22=>
  if (!x_22)=true then
  some (.inl ((w64 ((w64 ((IntKind.u64.wrap (w64 (s_7.1+s_7.2))).fdiv (2 ^ 1)))+1)),s_7.2))
  else
  some (.inl (s_7.1,(w64 ((IntKind.u64.wrap (w64 (s_7.1+s_7.2))).fdiv (2 ^ 1)))))
  else
  some (.inr (s_7.1))) (fun a b hab hb=>by
   simp only;rw [ae (by simp; omega),EK (by omega)];unfold mL;rw [bc (qw hab hb),hw];simp only [bsm];by_cases hr:r≤(eT[(a+b) / 2]'(qw hab hb)).2.1
   ·rw [af (by simpa using hr),ae hr]
   ·rw [ae (by simpa using hr),af hr,aF (by omega)];rfl) (fun a=>by simp only; rw [af (by simp)])
 unfold fO;rw [e1];simp only [bsm,hw];have hf:=xD Gh e3 e4;unfold lk;rw [hf];by_cases hi:i < eT.length
 ·rw [tY hi,bc hi];simp only [bsm,br];by_cases hlo:eT[i].1≤r
  ·rw [af (by simp; omega),ae hlo];rfl
  ·rw [ae (by simp; omega),af hlo];rfl
 ·rw [wd hi,show ((i:Int)==(eT.length:Int))=true by simp; omega,yC];simp only [bsm];rw [ae trivial];rfl
theorem El (r:Int) (h:r32 r):oD r=some (pic r):=by
 have hlen:=FR;unfold oD;rw [Hb];simp only [bsm];obtain ⟨i,e1,e2,e3,e4⟩:=qX G9 FR r (step:=fun s_7=>
  if (decide (s_7.1 < s_7.2))=true then
  (mG (w64 ((IntKind.u64.wrap (w64 (s_7.1+s_7.2))).fdiv (2 ^ 1))) pT r).bind fun x_22=>
  if (!x_22)=true then
  some (.inl ((w64 ((w64 ((IntKind.u64.wrap (w64 (s_7.1+s_7.2))).fdiv (2 ^ 1)))+1)),s_7.2))
  else
  some (.inl (s_7.1,(w64 ((IntKind.u64.wrap (w64 (s_7.1+s_7.2))).fdiv (2 ^ 1)))))
  else
  some (.inr (s_7.1))) (fun a b hab hb=>by
   simp only;rw [ae (by simp; omega),EK (by omega)];unfold mG;rw [bc (qw hab hb)];simp only [bsm];by_cases hr:r≤(pT[(a+b) / 2]'(qw hab hb)).2
   ·rw [af (by simpa using hr),ae hr]
   ·rw [ae (by simpa using hr),af hr,aF (by omega)];rfl) (fun a=>by simp only; rw [af (by simp)])
 unfold fN;rw [e1];simp only [bsm];have hf:=xD G9 e3 e4;unfold pic;rw [hf];by_cases hi:i < pT.length
 ·rw [tY hi,bc hi];simp only [bsm,aZ];by_cases hlo:pT[i].1≤r
  ·rw [ae hlo];simp [hi,hlo]
  ·rw [af hlo];simp [hlo]
 ·rw [wd hi,show decide ((i:Int) < (pT.length:Int))=false by simp; omega,gt];rfl
theorem Fx (r:Int) (h:r32 r):qx r=some (pr r):=by
 unfold qx;rw [F9 r h,El r h,EX r h,EQ r h];rfl
end Go.Proofs.YthokmpbbkpjhbaaGreatDoor
namespace Go.Proofs.YthokmpbbkpjhbaaGreatDoor
open Go Go.Lt
theorem Dy {a b:ab} (h1:a.Kind=b.Kind) (h2:a.Text=b.Text):a=b:=by
 cases a; cases b; simp_all
def bl:ab:=⟨0,[]⟩
def vld (r:Int):Bool:=decide (0≤r) && decide (r≤1114111) && (decide (r < 55296) || decide (r > 57343))
theorem tM (r:Int):cM r=some (vld r):=by
 simp only [cM,aZ,br,bsm,vld,zW]
theorem tH (r:Int):eZ r=some (vld r):=by
 simp only [eZ,aZ,br,bsm,vld,aR];rw [ci];simp;omega
def rgt (c:ab):Bool:=
 if c.Kind=0∨c.Kind=3 then c.Text.isEmpty else (decide (c.Kind=1) || decide (c.Kind=2)) && decide (1≤c.Text.length) && decide (c.Text.length≤16) && c.Text.all vld
theorem rR {α:Type} (p:α→Bool) (l:List α) (i:Nat) (h:i < l.length):(l.take (i+1)).all p=((l.take i).all p && p l[i]):=by
 rw [av h,List.all_append];simp
theorem tz {α:Type} {p:α→Bool} {l:List α} {i:Nat} (h:i < l.length) (hp:p l[i]=false):l.all p=false:=by
 rw [List.all_eq_false];exact ⟨_,aG h,by simp [hp]⟩
theorem uq {α:Type} (l:List α):((l.length:Int)==0)=l.isEmpty:=by
 cases l <;> simp <;> omega
theorem Bt (c:ab):ir c=some (rgt c):=by
 unfold ir rgt;simp only [br,aZ,bsm];by_cases h1:c.Kind=0∨c.Kind=3
 ·have e:(c.Kind==0 || c.Kind==3)=true:=by rcases h1 with h | h <;> simp [h]
  rw [ae e,ae h1,uq]
 ·have e:(c.Kind==0 || c.Kind==3)=false:=by simp; omega
  rw [af (by rw [e]; simp),af h1];by_cases h2:((c.Kind=1∨c.Kind=2)∧1≤c.Text.length∧c.Text.length≤16)
  ·have e2:(((c.Kind != 1 && c.Kind != 2) || decide ((c.Text.length:Int) < 1)) || decide ((c.Text.length:Int) > 16))=false:=by
    simp; omega
   rw [af (by rw [e2]; simp)];obtain ⟨t,h3,h4⟩:=nn (τ:=Bool ⊕ Unit) (n:=c.Text.length) (by omega) (fun t=>match t with | .inl b=>b=c.Text.all vld | .inr _=>c.Text.all vld=true) (fun i=>(c.Text.take i).all vld=true) (by simp)
    (step:=fun s_44=>
     if (decide (s_44 < (c.Text.length:Int)))=true then
     (idx c.Text s_44).bind fun x_54=>
     (cM x_54).bind fun x_56=>
     if (!x_56)=true then
     some (.inr (.inl false))
     else
     some (.inl ((w64 (s_44+1))))
     else
     some (.inr (.inr ())))
    (fun i hi hI=>by
     have e3:w64 ((i:Int)+1)=((i+1:Nat):Int):=by rw [aF (by omega)]; simp
     simp only [mc,hi,jO,bm,bc hi,bsm,tM,e3]
     cases hv:vld c.Text[i] with
     | true=>exact .inl ⟨by simp,by rw [rR _ _ _ hi,hI,hv]; rfl⟩
     | false=>exact .inr ⟨.inl false,by simp,(tz hi hv).symm⟩)
    (fun hI=>⟨.inr (),by simp,by simpa using hI⟩)
   rw [h3];simp only [bsm];have e4:(decide (c.Kind=1) || decide (c.Kind=2))=true:=by simp; exact h2.1
   rw [e4,vG h2.2.1,vG h2.2.2]
   cases t with
   | inl b=>simp only at h4; simp [h4]
   | inr u=>simp only at h4; simp [h4]
  ·have e2:(((c.Kind != 1 && c.Kind != 2) || decide ((c.Text.length:Int) < 1)) || decide ((c.Text.length:Int) > 16))=true:=by
    simp; omega
   rw [ae e2]
   congr 1
   symm
   simp only [GO,wb,kp];omega
theorem ze (r:Int):ju r=some (!vld r):=by simp [ju,tH]
theorem wm (l:List Int) (hl:l.length≤9223372036854775807):bS l=some (!l.all vld):=by
 unfold bS cA;obtain ⟨t,h3,h4⟩:=nn (τ:=Int ⊕ Unit) (n:=l.length) (by omega) (fun t=>match t with | .inl i=>0≤i∧l.all vld=false | .inr _=>l.all vld=true) (fun i=>(l.take i).all vld=true) (by simp)
  (step:=fun s_7=>
   if (decide (s_7 < (l.length:Int)))=true then
   (idx l s_7).bind fun x_16=>
   (ju x_16).bind fun x_18=>
   if x_18=true then
   some (.inr (.inl s_7))
   else
   some (.inl ((w64 (s_7+1))))
   else
   some (.inr (.inr ())))
  (fun i hi hI=>by
   have e3:w64 ((i:Int)+1)=((i+1:Nat):Int):=by rw [aF (by omega)]; simp
   simp only [mc,hi,jO,bm,bc hi,bsm,ze,e3]
   cases hv:vld l[i] with
   | true=>exact .inl ⟨by simp,by rw [rR _ _ _ hi,hI,hv]; rfl⟩
   | false=>exact .inr ⟨.inl i,by simp,by omega,tz hi hv⟩)
  (fun hI=>⟨.inr (),by simp,by simpa using hI⟩)
 rw [h3];simp only [bsm]
 cases t with
 | inl b=>simp only at h4; simp [h4.1,h4.2]
 | inr u=>simp only at h4; simp [h4]
theorem Ae (c:ab):kF c=some (rgt c):=by
 unfold kF rgt;by_cases h1:c.Kind=0∨c.Kind=3
 ·rw [ae h1];rcases h1 with h | h <;> simp [h,uq]
 ·have n0:(c.Kind==0)=false:=by simp; omega
  have n3:(c.Kind==3)=false:=by simp; omega
  rw [af h1];simp only [n0,n3,aj,aU,bsm];by_cases h2:c.Kind=1∨c.Kind=2
  ·have e:(if (c.Kind==1)=true then some (c.Kind==1) else some (c.Kind==2):Option Bool)=some true:=by rcases h2 with h | h <;> simp [h]
   have e2:(decide (c.Kind=1) || decide (c.Kind=2))=true:=by simp; exact h2
   rw [e,e2];simp only [bsm,bm,aZ,du];by_cases h3:1≤c.Text.length∧c.Text.length≤16
   ·rw [wm _ (by omega)];have e4:(decide ((c.Text.length:Int) > 0) && decide ((c.Text.length:Int)≤16))=true:=by simp; omega
    have e5:(decide (1≤c.Text.length) && decide (c.Text.length≤16))=true:=by simp; exact h3
    rw [e4,e5];simp [gq]
   ·have e4:(decide ((c.Text.length:Int) > 0) && decide ((c.Text.length:Int)≤16))=false:=by simp; omega
    have e5:(decide (1≤c.Text.length) && decide (c.Text.length≤16))=false:=by simp; omega
    rw [e4,e5];simp [gt]
  ·have n1:(c.Kind==1)=false:=by simp; omega
   have n2:(c.Kind==2)=false:=by simp; omega
   have e2:(decide (c.Kind=1) || decide (c.Kind=2))=false:=by simp; omega
   rw [e2];simp [n1,n2]
def kd (l:List ab) (i:Nat):Int:=match l[i]? with | some c=>c.Kind | none=>0
theorem kH {l:List ab} {i:Nat} (h:i < l.length):kd l i=l[i].Kind:=by simp [kd,ag h]
theorem mp {l:List ab} {i:Nat} (h:l.length≤i):kd l i=0:=by simp [kd,aP h]
def Snd (l:List ab):Prop:=∀i (h:i < l.length),rgt l[i]=true∧(l[i].Kind=2→kd l (i+1)=3)∧(l[i].Kind=3→0 < i∧kd l (i - 1)=2)
theorem CO (l:List ab) (i:Int):eP l i=some (if 0≤i then kd l i.toNat else 0):=by
 unfold eP;simp only [br,bsm];by_cases h0:i < 0
 ·rw [ae (by simp [h0]),af (by omega)]
 ·by_cases h1:i < l.length
  ·obtain ⟨k,rfl⟩:=Int.eq_ofNat_of_zero_le (show 0≤i by omega);have hk:k < l.length:=by omega
   rw [af (by simp; omega),ae (by omega),bc hk];simp [kH hk]
  ·rw [ae (by simp; omega),ae (by omega),mp (by omega)]
theorem GJ (l:List ab) (hl:l.length≤9223372036854775807):∃b,mg l=some b∧(b=true↔Snd l):=by
 unfold mg;obtain ⟨t,h3,h4⟩:=nn (τ:=Bool ⊕ Unit) (n:=l.length) (by omega) (fun t=>match t with | .inl b=>b=false∧¬Snd l | .inr _=>Snd l)
  (fun i=>∀j (h:j < l.length),j < i→rgt l[j]=true∧(l[j].Kind=2→kd l (j+1)=3)∧(l[j].Kind=3→0 < j∧kd l (j - 1)=2)) (fun j _ h=>by omega)
  (step:=fun s_5=>
   if (decide (s_5 < (l.length:Int)))=true then
   (idx l s_5).bind fun x_13=>
   (ir x_13).bind fun x_15=>
   (orE (!x_15) ((idx l s_5).bind fun x_21=>
   (bI (x_21.Kind==2) ((eP l (w64 (s_5+1))).bind fun x_30=>
   some (x_30 != 3))).bind fun d_25=>
   some d_25)).bind fun d_17=>
   (orE d_17 ((idx l s_5).bind fun x_36=>
   (bI (x_36.Kind==3) ((eP l (w64 (s_5 - 1))).bind fun x_45=>
   some (x_45 != 2))).bind fun d_40=>
   some d_40)).bind fun d_32=>
   if d_32=true then
   some (.inr (.inl false))
   else
   some (.inl ((w64 (s_5+1))))
   else
   some (.inr (.inr ())))
  (fun i hi hI=>by
   have e3:w64 ((i:Int)+1)=((i+1:Nat):Int):=by rw [aF (by omega)]; simp
   have e4:w64 ((i:Int) - 1)=(i:Int) - 1:=aF (by omega);simp only [mc,hi,jO,bm,bc hi,bsm,Bt,CO,e3,e4,aZ,br];by_cases hk:rgt l[i]=true∧(l[i].Kind=2→kd l (i+1)=3)∧(l[i].Kind=3→0 < i∧kd l (i - 1)=2)
   ·refine .inl ⟨?_,fun j h hj=>?_⟩
    ·rw [af];obtain ⟨h1,h2,h5⟩:=hk;simp only [h1,cP,ji,aD,aw,aV,mV,wQ,FW,yF,Decidable.not_not];refine ⟨fun h=>?_,fun h=>?_⟩
     ·rw [ae (by omega)]; simpa using h2 h
     ·obtain ⟨h6,h7⟩:=h5 h;rw [ae (by omega),show ((i:Int) - 1).toNat=i - 1 by omega]; exact h7
    ·by_cases hji:j=i
     ·subst hji; exact hk
     ·exact hI j h (by omega)
   ·refine .inr ⟨.inl false,?_,rfl,fun hs=>hk (hs i hi)⟩;rw [ae]
    cases h1:rgt l[i] with
    | false=>simp
    | true=>
     simp only [h1,uU] at hk;have hk:(l[i].Kind=2∧¬kd l (i+1)=3)∨(l[i].Kind=3∧¬(0 < i∧kd l (i - 1)=2)):=by
      by_cases hA:l[i].Kind=2→kd l (i+1)=3
      ·exact .inr (Classical.not_imp.1 fun hB=>hk ⟨hA,hB⟩)
      ·exact .inl (Classical.not_imp.1 hA)
     simp only [cP,ji,aD,aw,aV,mV,wQ];rcases hk with ⟨h,h2⟩ | ⟨h,h2⟩
     ·refine .inl ⟨h,?_⟩;rw [ae (by omega)]; simpa using h2
     ·refine .inr ⟨h,?_⟩;by_cases h0:i=0
      ·subst h0; simp
      ·rw [ae (by omega),show ((i:Int) - 1).toNat=i - 1 by omega];exact fun h3=>h2 ⟨by omega,h3⟩)
  (fun hI=>⟨.inr (),by simp,fun j h=>hI j h h⟩)
 rw [h3];simp only [bsm]
 cases t with
 | inl b=>exact ⟨b,rfl,by simp only at h4; rw [h4.1]; simp [h4.2]⟩
 | inr u=>exact ⟨true,rfl,by simpa using h4⟩
theorem vH (l:List ab) (hl:l.length≤9223372036854775807):∃b,kE l=some b∧(b=true↔Snd l):=by
 unfold kE
 let ld:Nat→Bool:=fun i=>match i with | 0=>false | k+1=>decide (kd l k=2)
 have key:∀i (h:i < l.length),((rgt l[i]=true∧(ld i=decide (l[i].Kind=3)))↔rgt l[i]=true∧(l[i].Kind=3→0 < i∧kd l (i - 1)=2)∧(0 < i→kd l (i - 1)=2→l[i].Kind=3)):=fun i h=>by
  cases i with
  | zero=>simp [ld]
  | succ k=>simp only [ld,xU,decide_eq_decide]; constructor <;> (rintro ⟨a,b⟩; exact ⟨a,by omega⟩)
 have snd:Snd l↔(∀i (h:i < l.length),rgt l[i]=true∧ld i=decide (l[i].Kind=3))∧ld l.length=false:=by
  constructor
  ·intro hs;refine ⟨fun i h=>(key i h).2 ⟨(hs i h).1,(hs i h).2.2,fun h0 h2=>?_⟩,?_⟩
   ·have:=(hs (i - 1) (by omega)).2.1 (by rw [←kH]; exact h2);rw [show i - 1+1=i by omega,kH h] at this;exact this
   ·cases hn:l.length with
    | zero=>rfl
    | succ k=>
     simp only [ld,kp];intro h2;have:=(hs k (by omega)).2.1 (by rw [←kH]; exact h2);rw [mp (by omega)] at this;cases this
  ·rintro ⟨h1,h2⟩ i h;have hk:=(key i h).1 (h1 i h);refine ⟨hk.1,fun h3=>?_,hk.2.1⟩;by_cases hn:i+1 < l.length
   ·have:=((key (i+1) hn).1 (h1 (i+1) hn)).2.2 (by omega) (by rw [xU,kH h]; exact h3);rw [kH hn]; exact this
   ·exfalso
    have e:l.length=i+1:=by omega
    rw [e] at h2;simp only [ld,kp] at h2;rw [kH h] at h2;exact h2 h3
 obtain ⟨t,h3,h4⟩:=lG (τ:=Bool ⊕ Bool) (fun s:Bool×Int=>∃i:Nat,s=(ld i,(i:Int))∧i≤l.length∧∀j (h:j < l.length),j < i→rgt l[j]=true∧ld j=decide (l[j].Kind=3)) (fun s=>l.length - s.2.toNat)
  (fun t=>match t with | .inl b=>b=false∧¬Snd l | .inr b=>(b=false↔Snd l))
  (step:=fun s_9=>
   if (decide (s_9.2 < (l.length:Int)))=true then
   (idx l s_9.2).bind fun x_12=>
   (kF x_12).bind fun x_18=>
   (orE (!x_18) (some (!(s_9.1==(x_12.Kind==3))))).bind fun d_20=>
   if d_20=true then
   some (.inr (.inl false))
   else
   some (.inl (x_12.Kind==2,(w64 (s_9.2+1))))
   else
   some (.inr (.inr (s_9.1))))
  (by
   rintro s ⟨i,rfl,hi,hI⟩;rcases aO i l.length with hlt | hge
   ·have e3:w64 ((i:Int)+1)=((i+1:Nat):Int):=by rw [aF (by omega)]; simp
    simp only [mc,hlt,jO,bm,bc hlt,bsm,Ae,br,e3];by_cases hk:rgt l[i]=true∧ld i=decide (l[i].Kind=3)
    ·refine .inl ⟨_,?_,⟨i+1,rfl,hlt,fun j h hj=>?_⟩,?_⟩
     ·rw [af]
      ·simp only [ld,kH hlt]; rfl
      ·rw [hk.1,hk.2]; simp; rfl
     ·by_cases hji:j=i
      ·subst hji; exact hk
      ·exact hI j h (by omega)
     ·simp; omega
    ·refine .inr ⟨.inl false,?_,rfl,fun hs=>hk ((snd.1 hs).1 i hlt)⟩;rw [ae]
     cases h1:rgt l[i] with
     | false=>simp
     | true=>
      simp only [h1,uU] at hk;simp only [cP,ji,dv,eU,wQ];exact hk
   ·obtain rfl:i=l.length:=by omega
    refine .inr ⟨.inr (ld l.length),by simp,?_⟩;simp only;rw [snd];exact ⟨fun h=>⟨fun j hj=>hI j hj hj,h⟩,fun h=>h.2⟩) (((l.length:Int) - 0).toNat+1) (false,0) ⟨0,rfl,cG _,fun j _ h=>by omega⟩ (by simp)
 rw [h3];simp only [bsm]
 cases t with
 | inl b=>exact ⟨b,rfl,by simp only at h4; rw [h4.1]; simp [h4.2]⟩
 | inr b=>exact ⟨!b,rfl,by simp only at h4; rw [←h4]; cases b <;> simp⟩
theorem Bj (a:List Int) (ha:a.length≤9223372036854775807) (b:List Int):∃t,dM a b=some t∧(t=true↔a=b):=by
 unfold dM;by_cases hl:a.length=b.length
 ·rw [af (by simp [hl])];obtain ⟨t,h3,h4⟩:=nn (τ:=Bool ⊕ Unit) (n:=a.length) (by omega) (fun t=>match t with | .inl b'=>b'=false∧a≠b | .inr _=>a=b) (fun i=>∀j,j < i→a[j]? = b[j]?) (fun j h=>by omega)
   (step:=fun s_13=>
    if (decide (s_13 < (a.length:Int)))=true then
    (idx a s_13).bind fun x_21=>
    (idx b s_13).bind fun x_25=>
    if (x_21 != x_25)=true then
    some (.inr (.inl false))
    else
    some (.inl ((w64 (s_13+1))))
    else
    some (.inr (.inr ())))
   (fun i hi hI=>by
    have e3:w64 ((i:Int)+1)=((i+1:Nat):Int):=by rw [aF (by omega)]; simp
    simp only [mc,hi,jO,bm,bc hi,bc (show i < b.length by omega),bsm,e3];by_cases hk:a[i]=b[i]
    ·refine .inl ⟨by rw [af (by simp [hk])],fun j hj=>?_⟩;by_cases hji:j=i
     ·subst hji; rw [ag hi,ag (show j < b.length by omega),hk]
     ·exact hI j (by omega)
    ·exact .inr ⟨.inl false,by rw [ae (by simpa using hk)],rfl,fun e=>hk (by subst e; rfl)⟩)
   (fun hI=>⟨.inr (),by simp,by
    apply bT;intro j;rcases aO j a.length with h | h
    ·exact hI j h
    ·rw [aP h,aP (by omega)]⟩)
  rw [h3];simp only [bsm]
  cases t with
  | inl b'=>exact ⟨b',rfl,by simp only at h4; rw [h4.1]; simp [h4.2]⟩
  | inr u=>exact ⟨true,rfl,by simpa using h4⟩
 ·rw [ae (by simp; omega)];exact ⟨false,rfl,by simp; intro e; subst e; exact hl rfl⟩
def Sht (l:List ab):Prop:=∀i (h:i < l.length),l[i].Text.length≤1000000
theorem Snd.sht {l:List ab} (h:Snd l):Sht l:=fun i hi=>by
 have:=(h i hi).1;unfold rgt at this;split at this
 ·have e:l[i].Text= []:=by simpa using this
  rw [e]; simp
 ·simp at this; omega
theorem zE (a:List ab) (ha:a.length≤9223372036854775807) (hs:Sht a) (b:List ab):∃t,dI a b=some t∧(t=true↔a=b):=by
 unfold dI;by_cases hl:a.length=b.length
 ·rw [af (by simp [hl])];obtain ⟨t,h3,h4⟩:=nn (τ:=Bool ⊕ Unit) (n:=a.length) (by omega) (fun t=>match t with | .inl b'=>b'=false∧a≠b | .inr _=>a=b) (fun i=>∀j,j < i→a[j]? = b[j]?) (fun j h=>by omega)
   (step:=fun s_13=>
    if (decide (s_13 < (a.length:Int)))=true then
    (idx a s_13).bind fun x_21=>
    (idx b s_13).bind fun x_26=>
    (orE (x_21.Kind != x_26.Kind) ((idx a s_13).bind fun x_34=>
    (idx b s_13).bind fun x_39=>
    (dM x_34.Text x_39.Text).bind fun x_42=>
    some (!x_42))).bind fun d_30=>
    if d_30=true then
    some (.inr (.inl false))
    else
    some (.inl ((w64 (s_13+1))))
    else
    some (.inr (.inr ())))
   (fun i hi hI=>by
    have e3:w64 ((i:Int)+1)=((i+1:Nat):Int):=by rw [aF (by omega)]; simp
    obtain ⟨t,ht,ht2⟩:=Bj a[i].Text (by have:=hs i hi; omega) b[i].Text;simp only [mc,hi,jO,bm,bc hi,bc (show i < b.length by omega),bsm,e3,ht,br];by_cases hk:a[i]=b[i]
    ·refine .inl ⟨by rw [af (by rw [ht2.2 (by rw [hk])]; simp [hk])],fun j hj=>?_⟩;by_cases hji:j=i
     ·subst hji; rw [ag hi,ag (show j < b.length by omega),hk]
     ·exact hI j (by omega)
    ·refine .inr ⟨.inl false,?_,rfl,fun e=>hk (by subst e; rfl)⟩;rw [ae];by_cases hkk:a[i].Kind=b[i].Kind
     ·have:t=false:=by
       cases t with
       | false=>rfl
       | true=>exact absurd (Dy hkk (ht2.1 rfl)) hk
      simp [this]
     ·simp [hkk])
   (fun hI=>⟨.inr (),by simp,by
    apply bT;intro j;rcases aO j a.length with h | h
    ·exact hI j h
    ·rw [aP h,aP (by omega)]⟩)
  rw [h3];simp only [bsm]
  cases t with
  | inl b'=>exact ⟨b',rfl,by simp only at h4; rw [h4.1]; simp [h4.2]⟩
  | inr u=>exact ⟨true,rfl,by simpa using h4⟩
 ·rw [ae (by simp; omega)];exact ⟨false,rfl,by simp; intro e; subst e; exact hl rfl⟩
theorem Bk {a:List ab} (ha:a.length≤9223372036854775807) (hs:Sht a):dI a a=some true:=by
 obtain ⟨t,h1,h2⟩:=zE a ha hs a;rw [h1,h2.2 rfl]
def fM (r:Int):Int:=if vld r=true then r else 65533
def fx (t:List Int):List Int:=(t.take 16).map fM
def dZ (wide:Int) (t:List Int):List ab:=
 if t= [] then (if wide > 1 then [bl,bl] else [bl]) else if wide > 1 then [⟨2,t⟩,⟨3,[]⟩] else [⟨1,t⟩]
theorem yd (r:Int):vld (fM r)=true:=by
 unfold fM;split
 ·assumption
 ·rfl
theorem Ge (t:List Int):∀x∈fx t,vld x=true:=fun x hx=>by
 obtain ⟨y,_,rfl⟩:=List.mem_map.1 hx;exact yd y
theorem Gf (t:List Int):(fx t).length≤16:=by simp [fx]; omega
theorem AU (t:List Int):(fx t).length=min 16 t.length:=by simp [fx]
theorem CK {k:Int} (hk:k=1∨k=2) {t:List Int} (h1:1≤t.length) (h2:t.length≤16) (hv:∀x∈t,vld x=true):rgt ⟨k,t⟩=true:=by
 unfold rgt;rw [af (by simp; omega)];simp only [aw,aD,an,tC];exact ⟨⟨⟨hk,h1⟩,h2⟩,hv⟩
theorem Be (wide:Int) {t:List Int} (hv:∀x∈t,vld x=true) (h2:t.length≤16):Snd (dZ wide t):=by
 unfold dZ;have hb:rgt bl=true:=rfl;have h3:rgt ⟨3,[]⟩=true:=rfl;by_cases ht:t= []
 ·rw [ae ht];split
  ·intro i hi
   match i,hi with
   | 0,_=>exact ⟨hb,fun h=>by simp [bl] at h,fun h=>by simp [bl] at h⟩
   | 1,_=>exact ⟨hb,fun h=>by simp [bl] at h,fun h=>by simp [bl] at h⟩
  ·intro i hi
   match i,hi with
   | 0,_=>exact ⟨hb,fun h=>by simp [bl] at h,fun h=>by simp [bl] at h⟩
 ·rw [af ht];have h1:1≤t.length:=by
   rcases qV t.length with h | h
   ·exact absurd (eV h) ht
   ·exact h
  split
  ·intro i hi
   match i,hi with
   | 0,_=>exact ⟨CK (.inr rfl) h1 h2 hv,fun _=>rfl,fun h=>by simp at h⟩
   | 1,_=>exact ⟨h3,fun h=>by simp at h,fun _=>⟨by omega,rfl⟩⟩
  ·intro i hi
   match i,hi with
   | 0,_=>exact ⟨CK (.inl rfl) h1 h2 hv,fun h=>by simp at h,fun h=>by simp at h⟩
theorem CN (wide:Int) (t:List Int) (ht:t.length≤9223372036854775807):gY wide t=some (dZ wide (fx t)):=by
 unfold gY;rw [pi (s:=(([]:List Int),(0:Int))) (t:=fx t) (fun st:List Int×Int=>∃i:Nat,st=((fx t).take i,(i:Int))∧i≤(fx t).length) (fun st=>(fx t).length - st.2.toNat) ?_ ⟨0,rfl,cG _⟩ (by simp [fx]; omega)]
 ·simp only [bsm,aZ];unfold dZ;by_cases h0:fx t= []
  ·rw [ae h0,h0];by_cases hw:wide > 1
   ·simp [hw,bl]
   ·simp [hw,bl]
  ·have h1:(((fx t).length:Int)==0)=false:=by
    rw [eU];intro e;exact h0 (eV (by omega))
   rw [af h0];simp only [h1,lY,aj,aU];by_cases hw:wide > 1
   ·simp [hw]
   ·simp [hw]
 ·rintro st ⟨i,rfl,hi⟩;have hl:=AU t;rcases aO i (fx t).length with hlt | hge
  ·refine .inl ⟨_,?_,⟨i+1,rfl,hlt⟩,by simp; omega⟩;have e3:w64 ((i:Int)+1)=((i+1:Nat):Int):=by rw [aF (by omega)]; simp
   have hit:i < t.length:=by omega
   have d1:(decide ((i:Int) < (t.length:Int)) && decide ((i:Int) < 16))=true:=by simp; omega
   have hx:(fx t)[i]=fM t[i]:=by simp [fx]
   simp only [aZ,bsm,d1,bm,bc hit,tM,e3];have happ:∀x,x=fM t[i]→app ((fx t).take i) [x]=some ((fx t).take (i+1)):=fun x hxx=>by
    rw [cK (by rw [ay]; simp; omega),av hlt,hx,hxx]
   cases hv:vld t[i] with
   | true=>
    simp only [bm];rw [happ _ (by simp [fM,hv])];rfl
   | false=>
    simp only [aj,aU];rw [happ _ (by simp [fM,hv])];rfl
  ·obtain rfl:i=(fx t).length:=by omega
   have d1:(decide (((fx t).length:Int) < (t.length:Int)) && decide (((fx t).length:Int) < 16))=false:=by simp; omega
   exact .inr (by simp only [aZ,bsm,d1,aj,aU]; simp)
end Go.Proofs.YthokmpbbkpjhbaaGreatDoor
namespace Go.Proofs.YthokmpbbkpjhbaaGreatDoor
open Go Go.Lt
def Sto.sr (s:Sto) (k:Nat) (x:bf):Sto:={ s with row_Row:=s.row_Row.set k x}
theorem cz {α:Type} {l:List α} {k:Nat} {x:α} (h:l[k]? = some x):k < l.length:=(List.getElem?_eq_some_iff.1 h).1
theorem uK {s:Sto} {k:Nat} {x:bf} (h:k < s.row_Row.length):s.set_row_Row k x=some (s.sr k x):=by
 unfold Sto.set_row_Row;rw [ae h];rfl
theorem FA (s:Sto) (k:Nat) (x:bf):(s.sr k x).row_Row.length=s.row_Row.length:=by simp [Sto.sr]
theorem rV {s:Sto} {k:Nat} {x:bf} (h:k < s.row_Row.length):(s.sr k x).row_Row[k]? = some x:=by simp [Sto.sr,h]
theorem yi {s:Sto} {k j:Nat} {x:bf} (h:k≠j):(s.sr k x).row_Row[j]? = s.row_Row[j]? :=by simp [Sto.sr,h]
theorem Ax (s:Sto) (k:Nat) (x y:bf):(s.sr k x).sr k y=s.sr k y:=by simp [Sto.sr]
theorem yj {s:Sto} {k:Nat} {x:bf} (h:s.row_Row[k]? = some x):s.sr k x=s:=by
 have:s.row_Row.set k x=s.row_Row:=by
  apply bT;intro j;by_cases hj:k=j
  ·subst hj; rw [bq (cz h),h]
  ·rw [aY hj]
 simp [Sto.sr,this]
theorem uS (s:Sto) (x:bf):(s.add_row_Row x).row_Row[s.row_Row.length]? = some x:=by simp [Sto.add_row_Row]
theorem DO (s:Sto) (x y:bf):(s.add_row_Row x).sr s.row_Row.length y=s.add_row_Row y:=by simp [Sto.sr,Sto.add_row_Row]
variable {s:Sto} {k:Nat} {l:List ab} {w:Bool}
theorem iS (h:s.row_Row[k]? = some ⟨l,w⟩):bD s (some k)=some (l.length:Int):=by simp [bD,h]
theorem uM {c:ab} (h:c.Text.length≤1000000):ly c=some c:=by
 simp only [ly,fX,cK (show ([]:List Int).length+c.Text.length≤1099511627776 by simp; omega),bsm,ba]
theorem CI (h:s.row_Row[k]? = some ⟨l,w⟩):jr s (some k)=some w:=by simp [jr,h,bI]
theorem sN (h:s.row_Row[k]? = some ⟨l,w⟩) (on:Bool):dD s (some k) on=some (s.sr k ⟨l,on⟩):=by
 simp [dD,h,uK (cz h)]
theorem qZ (h:s.row_Row[k]? = some ⟨l,w⟩) (hl:l.length≤1000000) (hs:Sht l):eD s (some k)=some l:=by
 unfold eD;rw [iS h];simp only [bsm];rw [pi (s:=(([]:List ab),(0:Int))) (t:=l) (fun st:List ab×Int=>∃i:Nat,st=(l.take i,(i:Int))∧i≤l.length) (fun st=>l.length - st.2.toNat) ?_ ⟨0,rfl,cG _⟩ (by simp)]
 ·rfl
 ·rintro st ⟨i,rfl,hi⟩;rcases aO i l.length with hlt | hge
  ·refine .inl ⟨(l.take (i+1),((i+1:Nat):Int)),?_,⟨i+1,rfl,hlt⟩,by simp; omega⟩;have e3:w64 ((i:Int)+1)=((i+1:Nat):Int):=by rw [aF (by omega)]; simp
   simp only [mc,hlt,jO,bm,bsm,h,bc hlt,uM (hs i hlt),e3];rw [cK (by rw [ay]; simp; omega),av hlt];rfl
  ·obtain rfl:i=l.length:=by omega
   exact .inr (by simp)
theorem yt (h:s.row_Row[k]? = some ⟨l,w⟩) {i:Nat} (hi:i < l.length) (hs:Sht l):fY s (some k) i=some (l[i],true):=by
 unfold fY;rw [iS h];simp only [bsm,br];rw [af (by simp; omega)];simp only [h,bsm,bc hi,uM (hs i hi)]
theorem yr (h:s.row_Row[k]? = some ⟨l,w⟩) (i:Nat):gW s (some k) i=some (kd l i):=by
 unfold gW;rw [iS h];simp only [bsm,br];by_cases hi:i < l.length
 ·rw [af (by simp; omega)];simp only [h,bsm,bc hi,kH hi]
 ·rw [ae (by simp; omega),mp (by omega)]
theorem xn (h:s.row_Row[k]? = some ⟨l,w⟩) {i:Nat} (hi:i < l.length) (hl:l.length≤1000000) {c:ab} (hc:c.Text.length≤1000000):
  fQ s (some k) i c=some (s.sr k ⟨l.set i c,w && !decide (i+1=l.length)⟩):=by
 unfold fQ;have e:w64 (((l.set i c).length:Int) - 1)=(l.length:Int) - 1:=by rw [cq,aF (by omega)]
 simp only [h,bsm,uM hc,bc hi,kN hi,uK (cz h),e];by_cases hn:i+1=l.length
 ·rw [ae (by simp; omega),uK (by rw [FA]; exact cz h),Ax];simp [hn]
 ·rw [af (by simp; omega)];simp [hn]
def sd (n:Int):Nat:=(max 1 (min n 1024)).toNat
theorem sL (n:Int):1≤sd n∧sd n≤1024:=by unfold sd; omega
theorem Az {n:Nat} (h:1≤n) (h2:n≤1024):sd n=n:=by unfold sd; omega
theorem uh (n:Int):ey n=some (List.replicate (max 0 (min n 1024)).toNat bl):=by
 unfold ey;simp only [eX,dq];rw [nV _ (by omega)];rfl
theorem xo (n:Int):kC s n=some (s.add_row_Row ⟨List.replicate (sd n) bl,false⟩,some s.row_Row.length):=by
 unfold kC;rw [uh];simp only [bsm,eX];rw [show (max 0 (min (max 1 n) 1024)).toNat=sd n by unfold sd; omega]
theorem tE (n:Nat):Snd (List.replicate n bl):=fun i h=>by
 rw [jg];exact ⟨rfl,fun h=>by simp [bl] at h,fun h=>by simp [bl] at h⟩
theorem CJ (hl:1≤l.length) (hl2:l.length≤1024) (hs:Snd l):np s l=some (s.add_row_Row ⟨l,false⟩,some s.row_Row.length,Er.nil):=by
 unfold np;obtain ⟨b,h1,h2⟩:=vH l (by omega);have hb:b=true:=h2.2 hs;subst hb;simp only [br,bsm,h1];rw [af (by rw [aD,aV,an]; omega),af (by simp),xo,Az hl hl2];simp only [bsm];rw [pi (s:=((0:Int),s.add_row_Row ⟨List.replicate l.length bl,false⟩)) (t:=s.add_row_Row ⟨l,false⟩) (fun st:Int×Sto=>∃i:Nat,st=((i:Int),s.add_row_Row ⟨l.take i++List.replicate (l.length - i) bl,false⟩)∧i≤l.length) (fun st=>l.length - st.1.toNat) ?_ ⟨0,by simp,cG _⟩ (by simp)]
 ·rfl
 ·rintro st ⟨i,rfl,hi⟩;rcases aO i l.length with hlt | hge
  ·refine .inl ⟨_,?_,⟨i+1,rfl,hlt⟩,by simp; omega⟩;have e3:w64 ((i:Int)+1)=((i+1:Nat):Int):=by rw [aF (by omega)]; simp
   have hlen:(l.take i++List.replicate (l.length - i) bl).length=l.length:=by simp; omega
   simp only [mc,hlt,jO,bm,bc hlt,bsm,uS,uM (hs.sht i hlt),e3];rw [bc (show i < (l.take i++List.replicate (l.length - i) bl).length by omega)];simp only [bsm];rw [kN (show i < (l.take i++List.replicate (l.length - i) bl).length by omega)];simp only [bsm];rw [uK (cz (uS _ _)),DO];simp only [bsm];have:(l.take i++List.replicate (l.length - i) bl).set i l[i]=l.take (i+1)++List.replicate (l.length - (i+1)) bl:=by
    rw [ll _ _ (by rw [ay]; omega),ay,cp hi,mb,show l.length - i=(l.length - (i+1))+1 by omega,List.replicate_succ,mW,av hlt,aK];rfl
   rw [this]
  ·obtain rfl:i=l.length:=by omega
   exact .inr (by simp)
def tch (l:List ab) (a n j:Nat):Bool:=(decide (a≤j) && decide (j < a+n)) || (decide (kd l j=2) && decide (a≤j+1) && decide (j+1 < a+n)) || (decide (kd l j=3) && decide (a+1≤j) && decide (j < a+n+1))
def pc (l:List ab) (a:Nat) (p:List ab) (j:Nat):ab:=
 if a≤j∧j < a+p.length then p.getD (j - a) bl else if tch l a p.length j=true then bl else l.getD j bl
def pl (l:List ab) (a:Nat) (p:List ab):List ab:=(List.range l.length).map (pc l a p)
def pw (l:List ab) (w:Bool) (a n:Nat):Bool:=w && !(decide (0 < l.length) && tch l a n (l.length - 1))
theorem jC (l:List ab) (a:Nat) (p:List ab):(pl l a p).length=l.length:=by simp [pl]
theorem tP {a:Nat} {p:List ab} {j:Nat} (h:j < l.length):(pl l a p)[j]? = some (pc l a p j):=by simp [pl,h]
theorem Fi {a:Nat} {p:List ab} {j:Nat} (h:j < (pl l a p).length):(pl l a p)[j]=pc l a p j:=by simp [pl]
theorem C7 {a:Nat} {p:List ab} {j:Nat} (h:j < l.length):kd (pl l a p) j=(pc l a p j).Kind:=by simp [kd,tP h]
theorem Snd.two (h:Snd l) {j:Nat} (hj:kd l j=2):kd l (j+1)=3:=by
 have hlt:j < l.length:=by
  rcases aO j l.length with h | h
  ·exact h
  ·rw [mp h] at hj; cases hj
 exact (h j hlt).2.1 (by rw [←kH hlt]; exact hj)
theorem Snd.three (h:Snd l) {j:Nat} (hj:kd l j=3):0 < j∧kd l (j - 1)=2:=by
 have hlt:j < l.length:=by
  rcases aO j l.length with h | h
  ·exact h
  ·rw [mp h] at hj; cases hj
 exact (h j hlt).2.2 (by rw [←kH hlt]; exact hj)
theorem un {j:Nat} (h:kd l j≠0):j < l.length:=by
 rcases aO j l.length with h' | h'
 ·exact h'
 ·exact absurd (mp h') h
theorem Snd.rg (h:Snd l) {j:Nat} (hj:j < l.length):rgt (l.getD j bl)=true:=by
 rw [aq,ag hj];exact (h j hj).1
theorem ni (l:List ab) (j:Nat):(l.getD j bl).Kind=kd l j:=by
 rw [aq,kd]
 cases l[j]? <;> rfl
theorem Snd.paint {a:Nat} {p:List ab} (h:Snd l) (hp:Snd p) (ha:a+p.length≤l.length):Snd (pl l a p):=fun j hj=>by
 rw [jC] at hj;rw [Fi];have kpc:∀i,i < l.length→(pc l a p i).Kind=if a≤i∧i < a+p.length then kd p (i - a) else if tch l a p.length i=true then 0 else kd l i:=fun i hi=>by
  unfold pc;split
  ·exact ni _ _
  ·split
   ·rfl
   ·exact ni _ _
 have kall:∀i,kd (pl l a p) i=if i < l.length then (if a≤i∧i < a+p.length then kd p (i - a) else if tch l a p.length i=true then 0 else kd l i) else 0:=fun i=>by
  by_cases hi:i < l.length
  ·rw [ae hi,C7 hi,kpc i hi]
  ·rw [af hi,mp (by rw [jC]; omega)]
 refine ⟨?_,fun h2=>?_,fun h3=>?_⟩
 ·unfold pc;split
  ·exact hp.rg (by omega)
  ·split
   ·rfl
   ·exact h.rg hj
 ·rw [kpc j hj] at h2;rw [kall];by_cases hin:a≤j∧j < a+p.length
  ·rw [ae hin] at h2;have h4:=hp.two h2;have h5:j - a+1 < p.length:=un (by rw [h4]; decide);rw [ae (by omega),ae (by omega),show j+1 - a=j - a+1 by omega]; exact h4
  ·rw [af hin] at h2;split at h2
   ·cases h2
   ·rename_i ht
    have h4:=h.two h2;have h5:j+1 < l.length:=un (by rw [h4]; decide);simp only [tch,h2,jO,du,aD,aw,an,FW,yF] at ht;have h6:¬(a≤j+1∧j+1 < a+p.length):=by omega
    have h7:¬tch l a p.length (j+1)=true:=by
     simp only [tch,h4,aD,aw,an];omega
    rw [ae h5,af h6,af h7]; exact h4
 ·rw [kpc j hj] at h3;by_cases hin:a≤j∧j < a+p.length
  ·rw [ae hin] at h3;have h4:=hp.three h3;refine ⟨by omega,?_⟩;rw [kall,ae (by omega),ae (by omega),show j - 1 - a=j - a - 1 by omega]; exact h4.2
  ·rw [af hin] at h3;split at h3
   ·cases h3
   ·rename_i ht
    have h4:=h.three h3;refine ⟨h4.1,?_⟩;simp only [tch,h3,jO,du,aD,aw,an,FW,yF] at ht;have h6:¬(a≤j - 1∧j - 1 < a+p.length):=by omega
    have h7:¬tch l a p.length (j - 1)=true:=by
     simp only [tch,h4.2,aD,aw,an];omega
    rw [kall,ae (by omega),af h6,af h7]; exact h4.2
theorem tN (l:List ab) (w:Bool) (a:Nat) (p:List ab) (hl:l.length≤1000000) (ha:a≤1000000) (hp:p.length≤1000000):ek l w a p=some (pl l a p,pw l w a p.length):=by
 unfold ek;rw [pi (s:=(w,([]:List ab),(0:Int))) (t:=(pw l w a p.length,pl l a p)) (fun st:Bool×List ab×Int=>∃i:Nat,st=(if i < l.length then w else pw l w a p.length,(pl l a p).take i,(i:Int))∧i≤l.length) (fun st=>l.length - st.2.2.toNat) ?_ ⟨0,?_,cG _⟩ (by simp)]
 ·rfl
 ·rintro st ⟨i,rfl,hi⟩;rcases aO i l.length with hlt | hge
  ·refine .inl ⟨_,?_,⟨i+1,rfl,hlt⟩,by simp; omega⟩;have e3:w64 ((i:Int)+1)=((i+1:Nat):Int):=by rw [aF (by omega)]; simp
   have e4:w64 ((a:Int)+(p.length:Int))=((a+p.length:Nat):Int):=by rw [aF (by omega)]; simp
   have e5:w64 ((i:Int) - (a:Int))=(i:Int) - a:=aF (by omega);have e6:w64 ((i:Int) - 1)=(i:Int) - 1:=aF (by omega);have hd:decide ((i:Int) < (l.length:Int))=true:=by simp; exact hlt
   simp only [hd,bm,ae hlt,bc hlt,bsm,aZ,br,e3,e4,e5,e6];have happ:∀x:ab,x=pc l a p i→app ((pl l a p).take i) [x]=some ((pl l a p).take (i+1)):=fun x hx=>by
    subst hx;rw [cK (by rw [ay,jC]; simp; omega),av (show i < (pl l a p).length by rw [jC]; exact hlt),Fi]
   by_cases hin:a≤i∧i < a+p.length
   ·have c1:(decide ((i:Int)≥a) && decide ((i:Int) < ((a+p.length:Nat):Int)))=true:=by simp; omega
    obtain ⟨q,hq⟩:∃q:Nat,q=i - a:=⟨_,rfl⟩;have c2:(i:Int) - a=(q:Int):=by omega
    have hqp:q < p.length:=by omega
    simp only [c1,bm,c2,bc hqp,bsm,cP,gt,lY,aj,aU,Bool.true_or,E9];rw [happ ⟨p[q].Kind,p[q].Text⟩ (by rw [pc,ae hin,←hq,aq,ag hqp]; rfl)];by_cases hn:i+1=l.length
    ·have c3:(((i+1:Nat):Int)==(l.length:Int))=true:=by simp; omega
     have c4:pw l w a p.length=false:=by
      have:tch l a p.length (l.length - 1)=true:=by simp [tch]; omega
      simp [pw,this]; omega
     simp only [c3,bm,bsm,c4];rw [af (by omega)]
    ·have c3:(((i+1:Nat):Int)==(l.length:Int))=false:=by simp; omega
     simp only [c3,aj,aU,bsm];rw [ae (show i+1 < l.length by omega)]
   ·have c1:(decide ((i:Int)≥a) && decide ((i:Int) < ((a+p.length:Nat):Int)))=false:=by simp; omega
    have c5:((l[i].Kind==2 && decide (((i+1:Nat):Int)≥a) && decide (((i+1:Nat):Int) < ((a+p.length:Nat):Int))) || (l[i].Kind==3 && decide ((i:Int) - 1≥a) && decide ((i:Int) - 1 < ((a+p.length:Nat):Int))))=tch l a p.length i:=by
     rw [ci];simp only [tch,kH hlt,aD,aw,aV,an];omega
    simp only [c1,aj,aU,bsm,eB,gq,ji,du];simp only [c5]
    cases ht:tch l a p.length i with
    | true=>
     simp only [bm,bsm,E9];rw [happ ⟨0,[]⟩ (by rw [pc,af hin,ae ht]; rfl)];by_cases hn:i+1=l.length
     ·have c3:(((i+1:Nat):Int)==(l.length:Int))=true:=by simp; omega
      have c4:pw l w a p.length=false:=by
       have e:l.length - 1=i:=by omega
       simp [pw,e,ht]; omega
      simp only [c3,bm,bsm,c4];rw [af (by omega)]
     ·have c3:(((i+1:Nat):Int)==(l.length:Int))=false:=by simp; omega
      simp only [c3,aj,aU,bsm];rw [ae (show i+1 < l.length by omega)]
    | false=>
     simp only [aj,aU,bsm,DV];rw [happ ⟨l[i].Kind,l[i].Text⟩ (by rw [pc,af hin,af (by simp [ht]),aq,ag hlt]; rfl)];by_cases hn:i+1=l.length
     ·have c4:pw l w a p.length=w:=by
       have e:l.length - 1=i:=by omega
       simp [pw,e,ht]
      simp only [bsm,c4,ite_self]
     ·simp only [bsm];rw [ae (show i+1 < l.length by omega)]
  ·obtain rfl:i=l.length:=by omega
   refine .inr ?_;have e:(pl l a p).take l.length=pl l a p:=aC (by rw [jC]; exact az _);simp [e]
 ·by_cases h0:0 < l.length
  ·simp [h0]
  ·simp [h0,pw]
end Go.Proofs.YthokmpbbkpjhbaaGreatDoor
namespace Go.Proofs.YthokmpbbkpjhbaaGreatDoor
open Go Go.Lt
variable {s:Sto} {k:Nat} {l p:List ab} {w:Bool}
theorem BM {i j:Nat} (h:i≠j) (c:ab):kd (l.set i c) j=kd l j:=by simp [kd,aY h]
theorem ou (h:s.row_Row[k]? = some ⟨l,w⟩) (hs:Snd l) (hl:l.length≤1024) (hp:Snd p) {a:Nat} (hn:1≤p.length) (ha:a+p.length≤l.length):
  dP s (some k) a p=some (s.sr k ⟨pl l a p,pw l w a p.length⟩,Er.nil):=by
 unfold dP;have hk:=cz h;obtain ⟨b,hb1,hb2⟩:=vH p (by omega);have hb:b=true:=hb2.2 hp;subst hb;have e1:w64 ((l.length:Int) - (a:Int))=(l.length:Int) - a:=aF (by omega);have e2:w64 ((a:Int)+(p.length:Int))=((a+p.length:Nat):Int):=by rw [aF (by omega)]; simp
 have o1:decide ((a:Int) < 0)=false:=by simp
 have o2:decide ((a:Int) > (l.length:Int))=false:=by simp; omega
 have o3:decide ((p.length:Int) > (l.length:Int) - (a:Int))=false:=by simp; omega
 have o4:((p.length:Int)==0)=false:=by rw [eU]; omega
 simp only [bL,fh,o1,o2,o3,o4,h,e1,e2,hb1,bsm,aj,aU,cP,yr h a];obtain ⟨l1,hl1⟩:∃l1,l1=if kd l a=3 then l.set (a - 1) bl else l:=⟨_,rfl⟩;have hlen1:l1.length=l.length:=by rw [hl1]; split <;> simp
 have left:(if (kd l a==3)=true then (fQ s (some k) (w64 ((a:Int) - 1)) (⟨0,([]:List Int)⟩:ab)).bind fun x_60=>(some (x_60):Option (Sto)) else (some (s):Option (Sto)))=some (s.sr k ⟨l1,w⟩):=by
  by_cases h3:kd l a=3
  ·have h4:=hs.three h3;have h5:a < l.length:=un (by rw [h3]; decide);rw [ae (by simpa using h3),show w64 ((a:Int) - 1)=((a - 1:Nat):Int) by rw [aF (by omega)]; omega,xn h (by omega) (by omega) (by simp)];rw [hl1,ae h3];have:decide (a - 1+1=l.length)=false:=by simp; omega
   simp only [bsm,this,eB,E9];rfl
  ·rw [af (by simpa using h3),hl1,af h3,yj h]
 rw [left];simp only [bsm];obtain ⟨l2,hl2⟩:∃l2,l2=if kd l (a+p.length)=3 then l1.set (a+p.length) bl else l1:=⟨_,rfl⟩;obtain ⟨w2,hw2⟩:∃w2,w2=(w && !(decide (kd l (a+p.length)=3) && decide (a+p.length+1=l.length))):=⟨_,rfl⟩;have hlen2:l2.length=l.length:=by rw [hl2]; split <;> simp [hlen1]
 have hget1:(s.sr k ⟨l1,w⟩).row_Row[k]? = some ⟨l1,w⟩:=rV hk;have hkd1:kd l1 (a+p.length)=kd l (a+p.length):=by
  rw [hl1]; split
  ·exact BM (by omega) _
  ·rfl
 have right:((gW (s.sr k ⟨l1,w⟩) (some k) ((a+p.length:Nat):Int)).bind fun x_71=>
   if (x_71==3)=true then
   (fQ (s.sr k ⟨l1,w⟩) (some k) ((a+p.length:Nat):Int) (⟨0,([]:List Int)⟩:ab)).bind fun x_77=>
   (some (x_77):Option (Sto))
   else
   (some (s.sr k ⟨l1,w⟩):Option (Sto)))=some (s.sr k ⟨l2,w2⟩):=by
  rw [yr hget1,hkd1];simp only [bsm];by_cases h3:kd l (a+p.length)=3
  ·have h5:a+p.length < l.length:=un (by rw [h3]; decide);rw [ae (by simpa using h3),xn hget1 (by omega) (by omega) (by simp)];simp only [bsm,Ax];rw [hl2,ae h3,hw2,hlen1];simp only [h3,jO,du];rfl
  ·rw [af (by simpa using h3),hl2,af h3,hw2];simp [h3]
 rw [right];simp only [bsm];rw [pi (s:=((0:Int),s.sr k ⟨l2,w2⟩)) (t:=s.sr k ⟨l2.take a++p++l2.drop (a+p.length),w2 && !decide (a+p.length=l.length)⟩)
  (fun st:Int×Sto=>∃i:Nat,st=((i:Int),s.sr k ⟨l2.take a++p.take i++l2.drop (a+i),w2 && !(decide (0 < i) && decide (a+i=l.length))⟩)∧i≤p.length) (fun st=>p.length - st.1.toNat) ?_ ⟨0,?_,cG _⟩ (by simp)]
 ·simp only [bsm,aR,gS,vW]
  congr 1
  congr 1
  ·
   apply bT;intro j;rcases aO j l.length with hj | hj
   ·rw [tP hj];have g1:∀j,j < l.length→j≠a+p.length→l1[j]? = some (if kd l a=3∧j=a - 1 then bl else l.getD j bl):=fun j hj _=>by
     rw [hl1];split
     ·rename_i h3
      by_cases hja:j=a - 1
      ·subst hja;rw [bq (by omega),ae ⟨h3,rfl⟩]
      ·rw [aY (rS hja),af (fun e=>hja e.2),ag hj,aq,ag hj]; rfl
     ·rename_i h3
      rw [af (fun e=>h3 e.1),ag hj,aq,ag hj]; rfl
    have lw:(l2.take a).length=a:=by rw [ay]; omega
    rcases aO j a with hja | hja
    ·rw [aK,aI (by omega),aS,ae hja];have e:l2[j]? = l1[j]? :=by
      rw [hl2]; split
      ·exact aY (by omega)
      ·rfl
     have hp0:¬(a≤j∧j < a+p.length):=by omega
     rw [e,g1 j hj (by omega),pc,af hp0]
     congr 1
     by_cases hc:kd l a=3∧j=a - 1
     ·rw [ae hc,ae];have h4:=hs.three hc.1;simp only [tch,aD,aw,an];refine .inl (.inr ⟨⟨?_,?_⟩,?_⟩)
      ·rw [hc.2]; exact h4.2
      ·omega
      ·omega
     ·rw [af hc,af];simp only [tch,aD,aw,an,FW,yF];refine ⟨⟨fun h=>by omega,fun h2=>?_⟩,fun h=>by omega⟩;have h3:=hs.two h2.1;have:j+1=a:=by omega
      rw [this] at h3;exact absurd ⟨h3,by omega⟩ hc
    ·rcases aO j (a+p.length) with hjn | hjn
     ·rw [aK,bh (by omega),aI (by omega),lw,pc,ae ⟨hja,hjn⟩,aq,ag (by omega)];rfl
     ·rw [bh (by rw [aA]; omega),bM,aA,lw,show a+p.length+(j - (a+p.length))=j by omega];rw [pc,af (by omega)];by_cases hc:kd l (a+p.length)=3∧j=a+p.length
      ·rw [hl2,ae hc.1,hc.2,bq (by omega),ae];simp only [tch,aD,aw,an];exact .inr ⟨⟨hc.1,by omega⟩,by omega⟩
      ·have e:l2[j]? = some (l.getD j bl):=by
        have e2:l1[j]? = some (l.getD j bl):=by
         rw [hl1]; split
         ·rw [aY (by omega),aq,ag hj]; rfl
         ·rw [aq,ag hj]; rfl
        rw [hl2]; split
        ·rename_i h3
         rw [aY (fun e=>hc ⟨h3,e.symm⟩),e2]
        ·exact e2
       rw [e,af];simp only [tch,aD,aw,an,FW,yF];refine ⟨⟨fun h=>by omega,fun h=>by omega⟩,fun h2=>?_⟩;intro h4;have:j=a+p.length:=by omega
       exact hc ⟨by rw [←this]; exact h2.1,this⟩
   ·rw [aP (l:=pl l a p) (by rw [jC]; exact hj),aP (by simp only [aA,ay,bu]; omega)]
  ·
   rw [hw2,pw,Bool.and_assoc]
   congr 1
   rw [←Bool.not_or]
   congr 1
   have h2:kd l (l.length - 1)≠2:=fun h2=>by
    have:=hs.two h2;rw [show l.length - 1+1=l.length by omega,mp (az _)] at this;cases this
   rw [ci];simp only [tch,aD,aw,an];constructor
   ·rintro (⟨h3,h4⟩ | h4)
    ·refine ⟨by omega,.inr ⟨⟨?_,by omega⟩,by omega⟩⟩;rw [show l.length - 1=a+p.length by omega]; exact h3
    ·exact ⟨by omega,.inl (.inl ⟨by omega,by omega⟩)⟩
   ·rintro ⟨h0,(⟨h3,h4⟩ | ⟨⟨h3,_⟩,_⟩) | ⟨⟨h3,h4⟩,h5⟩⟩
    ·exact .inr (by omega)
    ·exact absurd h3 h2
    ·by_cases hx:a+p.length=l.length
     ·exact .inr hx
     ·have:l.length - 1=a+p.length:=by omega
      exact .inl ⟨by rw [←this]; exact h3,by omega⟩
 ·rintro st ⟨i,rfl,hi⟩;rcases aO i p.length with hlt | hge
  ·refine .inl ⟨_,?_,⟨i+1,rfl,hlt⟩,by simp; omega⟩;have e3:w64 ((i:Int)+1)=((i+1:Nat):Int):=by rw [aF (by omega)]; simp
   have e4:w64 ((a:Int)+(i:Int))=((a+i:Nat):Int):=by rw [aF (by omega)]; simp
   have hd:decide ((i:Int) < (p.length:Int))=true:=by simp; exact hlt
   have hli:(l2.take a++p.take i++l2.drop (a+i)).length=l.length:=by
    simp only [aA,ay,bu]; omega
   simp only [hd,bm,bc hlt,bsm,e3,e4];rw [xn (rV hk) (by rw [hli]; omega) (by rw [hli]; omega) (hp.sht i hlt)];simp only [bsm,Ax,hli];have hset:(l2.take a++p.take i++l2.drop (a+i)).set (a+i) p[i]=l2.take a++p.take (i+1)++l2.drop (a+(i+1)):=by
    have hx:(l2.take a++p.take i).length=a+i:=by simp only [aA,ay]; omega
    rw [ll _ _ (by omega),hx,mb,gw (show a+i < l2.length by omega),mW,av hlt];simp only [aK,cm,ba,sw]
   rw [hset];have hwe:((w2 && !(decide (0 < i) && decide (a+i=l.length))) && !decide (a+i+1=l.length))=(w2 && !(decide (0 < i+1) && decide (a+(i+1)=l.length))):=by
    have:decide (a+i=l.length)=false:=by simp; omega
    rw [this];simp [sw]
   rw [hwe]
  ·obtain rfl:i=p.length:=by omega
   refine .inr ?_;have:decide (0 < p.length)=true:=by simp; omega
   simp [this]
 ·simp
def cl (n:Int) (m:Nat):Nat:=(max 0 (min n m)).toNat
theorem mX (n:Int) (m:Nat):cl n m≤m:=by unfold cl; omega
end Go.Proofs.YthokmpbbkpjhbaaGreatDoor
namespace Go.Proofs.YthokmpbbkpjhbaaGreatDoor
open Go Go.Lt
variable {s:Sto} {g k W:Nat} {ks:List Nat} {l p:List ab} {w:Bool}
def Sto.sg (s:Sto) (g:Nat) (x:bF):Sto:={ s with grid_Grid:=s.grid_Grid.set g x}
theorem uY {x:bF} (h:g < s.grid_Grid.length):s.set_grid_Grid g x=some (s.sg g x):=by
 simp only [Sto.set_grid_Grid,h,bm];rfl
theorem Cw {x:bF} (h:g < s.grid_Grid.length):(s.sg g x).grid_Grid[g]? = some x:=by simp [Sto.sg,h]
theorem GT (s:Sto) (g:Nat) (x y:bF):(s.sg g x).sg g y=s.sg g y:=by simp [Sto.sg]
theorem GU {x:bF} (h:s.grid_Grid[g]? = some x):s.sg g x=s:=by
 obtain ⟨h1,h2⟩:=List.getElem?_eq_some_iff.1 h;unfold Sto.sg;rw [←h2,GL]
def ln (s:Sto) (k:Nat):ak:=match s.row_Row[k]? with | some r=>⟨r.cells,r.wrap⟩ | none=>⟨[],false⟩
theorem nk {r:bf} (h:s.row_Row[k]? = some r):ln s k=⟨r.cells,r.wrap⟩:=by simp [ln,h]
def Rw (s:Sto) (W k:Nat):Prop:=∃r,s.row_Row[k]? = some r∧Snd r.cells∧r.cells.length=W
structure Gw (s:Sto) (g:Nat) (ks:List Nat) (W:Nat):Prop where
 g:s.grid_Grid[g]? = some ⟨ks.map some⟩
 r:∀k∈ks,Rw s W k
 h1:1≤ks.length
 h2:ks.length≤1024
 w1:1≤W
 w2:W≤1024
theorem Gw.at (h:Gw s g ks W) {i:Nat} (hi:i < ks.length):Rw s W ks[i]:=h.r _ (aG hi)
theorem eL (h:Gw s g ks W):bO s (some g)=some (ks.length:Int):=by simp [bO,h.g]
theorem eY (h:Gw s g ks W) {i:Nat} (hi:i < ks.length):bw s (some g) i=some (some ks[i]):=by
 unfold bw;rw [eL h];simp only [bsm,br];rw [af (by simp; omega)];simp only [bsm,h.g];rw [bc (by simpa using hi)];simp
theorem sZ (h:Gw s g ks W) {i:Int} (hi:i < 0∨(ks.length:Int)≤i):bw s (some g) i=some none:=by
 unfold bw;rw [eL h];simp only [bsm,br];rw [ae (by simp; omega)]
theorem xc (h:Rw s W k):bD s (some k)=some (W:Int):=by
 obtain ⟨r,h1,_,h3⟩:=h;rw [iS (l:=r.cells) (w:=r.wrap) h1,h3]
theorem jm (h:Gw s g ks W):cg s (some g)=some (W:Int):=by
 unfold cg;rw [show (0:Int)=((0:Nat):Int) from rfl,eY h (show 0 < ks.length from h.h1)];simp only [bsm];rw [xc (h.at h.h1)];rfl
theorem yP (h:Gw s g ks W) {i:Nat} (hi:i < ks.length) (hk:Rw s W k):eE s (some g) i (some k)=some (s.sg g ⟨(ks.set i k).map some⟩,true):=by
 unfold eE;rw [eY h hi];simp only [bsm,xc (h.at hi),xc hk,bL,fh];rw [af (by simp)];simp only [h.g,bsm];rw [bc (by simpa using hi),kN (by simpa using hi)];simp only [bsm];rw [uY (cz h.g)];simp
theorem Gw.set (h:Gw s g ks W) {i:Nat} (hk:Rw s W k):Gw (s.sg g ⟨(ks.set i k).map some⟩) g (ks.set i k) W:=
 ⟨Cw (cz h.g),fun j hj=>by
  rcases DW hj with hj | rfl
  ·exact h.r j hj
  ·exact hk,by simpa using h.h1,by simpa using h.h2,h.w1,h.w2⟩
theorem zV (h:Gw s g ks W):iW s (some g)=some (ks.map (ln s)):=by
 have hh:=h.h2;have hw:=h.w2;unfold iW;rw [eL h];simp only [bsm];obtain ⟨t,h1,h2⟩:=dV (σ:=(List ak)×Int) (τ:=List ak) (n:=ks.length) (fuel:=((ks.length:Int) - 0).toNat+1) (s:=(([]:List ak),0))
  (fun i q=>q=((ks.take i).map (ln s),(i:Int))) (fun t=>t=ks.map (ln s))
  (step:=fun s_9=>
 if (decide (s_9.2 < (ks.length:Int)))=true then
 (s.grid_Grid[g]?).bind fun o_19=>
 (idx o_19.rows s_9.2).bind fun x_21=>
 (idx o_19.rows s_9.2).bind fun x_28=>
 (eD s x_21).bind fun x_30=>
 (jr s x_28).bind fun x_31=>
 (app s_9.1 ([(⟨x_30,x_31⟩:ak)]:List ak)).bind fun x_34=>
 some (.inl (x_34,(w64 (s_9.2+1))))
 else
 some (.inr (s_9.1)))
  (fun i q hi e=>by
   subst e;refine .inl ⟨_,?_,rfl⟩;obtain ⟨r,r1,r2,r3⟩:=h.at hi;have e5:w64 ((i:Int)+1)=((i+1:Nat):Int):=by rw [aF (by omega)]; simp
   have hd:decide ((i:Int) < (ks.length:Int))=true:=by simp; exact hi
   have hi2:i < (ks.map some).length:=by simpa using hi
   simp only [hd,bm,bsm,h.g,bc hi2,dR,e5];rw [qZ (l:=r.cells) (w:=r.wrap) r1 (by omega) r2.sht,CI (l:=r.cells) (w:=r.wrap) r1];simp only [bsm];rw [cK (by simp; omega)];simp only [bsm];rw [av hi,bG];simp [nk r1])
  (fun q e=>⟨_,by subst e; simp,rfl⟩)
  (by simp) (by omega)
 subst h2;rw [h1];rfl
def Okl (W:Nat) (x:ak):Prop:=Snd x.Cells∧x.Cells.length=W
theorem zS {a:List ak} (ha:a.length≤1000000) (hs:∀x∈a,x.Cells.length≤1000000∧Sht x.Cells):eN a a=some true:=by
 unfold eN;rw [af (by simp)];obtain ⟨t,h1,h2⟩:=dV (σ:=Int) (τ:=Bool ⊕ Unit) (n:=a.length) (fuel:=((a.length:Int) - 0).toNat+1) (s:=0)
  (fun i q=>q=(i:Int)) (fun t=>t= .inr ())
  (step:=fun s_13=>
 if (decide (s_13 < (a.length:Int)))=true then
 (idx a s_13).bind fun x_21=>
 (idx a s_13).bind fun x_26=>
 (orE (!(x_21.Wrap==x_26.Wrap)) ((idx a s_13).bind fun x_34=>
 (idx a s_13).bind fun x_39=>
 (dI x_34.Cells x_39.Cells).bind fun x_42=>
 some (!x_42))).bind fun d_30=>
 if d_30=true then
 some (.inr (.inl false))
 else
 some (.inl ((w64 (s_13+1))))
 else
 some (.inr (.inr ())))
  (fun i q hi e=>by
   subst e;refine .inl ⟨_,?_,rfl⟩;have hm:=hs _ (aG hi);have e5:w64 ((i:Int)+1)=((i+1:Nat):Int):=by rw [aF (by omega)]; simp
   have hd:decide ((i:Int) < (a.length:Int))=true:=by simp; exact hi
   simp only [hd,bm,bc hi,bsm,e5,Bk (show a[i].Cells.length≤9223372036854775807 by omega) hm.2,tw,cP,fh,aj,aU])
  (fun q e=>⟨_,by subst e; simp,rfl⟩)
  rfl (by omega)
 subst h2;rw [h1];rfl
theorem wk (h:Gw s g ks W):∀x∈ks.map (ln s),Okl W x:=fun x hx=>by
 obtain ⟨k,hk,rfl⟩:=List.mem_map.1 hx;obtain ⟨r,r1,r2,r3⟩:=h.r k hk;rw [nk r1];exact ⟨r2,r3⟩
theorem zD {a:List ak} (ha:a.length≤1024) (hw:W≤1024) (hs:∀x∈a,Okl W x):eN a a=some true:=
 zS (by omega) fun x hx=>⟨by rw [(hs x hx).2]; omega,(hs x hx).1.sht⟩
theorem Cq {a b:Sto} (h1:a.row_Row=b.row_Row) (h2:a.grid_Grid=b.grid_Grid) (h3: { a with row_Row:=b.row_Row,grid_Grid:=b.grid_Grid}=b):a=b:=
 Eq.trans (show a= { a with row_Row:=b.row_Row,grid_Grid:=b.grid_Grid} by rw [←h1,←h2]) h3
def Sto.rst (s:Sto):Sto:={ s with row_Row:=[],grid_Grid:=[]}
def Sto.oth (s:Sto):Sto:={ s with row_Row:=[],grid_Grid:=[],place_Pen:=[]}
theorem kA {a b:Sto} (h:a.rst=b.rst):a.place_Pen=b.place_Pen:=by
 have:=ii Sto.place_Pen h;exact this
theorem qY {a b:Sto} (h:a.rst=b.rst):a.oth=b.oth:=by
 have:=ii (fun x:Sto=>({ x with place_Pen:=[]}:Sto)) h;exact this
def Sto.addr (s:Sto) (xs:List bf):Sto:={ s with row_Row:=s.row_Row++xs}
theorem DM (s:Sto) (xs:List bf):(s.addr xs).row_Row.length=s.row_Row.length+xs.length:=by simp [Sto.addr]
theorem zr {xs:List bf} (h:k < s.row_Row.length):(s.addr xs).row_Row[k]? = s.row_Row[k]? :=aI h
theorem tA {xs:List bf} {i:Nat} (h:i < xs.length):(s.addr xs).row_Row[s.row_Row.length+i]? = some xs[i]:=by
 simp [Sto.addr,bh,h]
theorem DN (s:Sto) (xs:List bf) (x:bf):(s.addr xs).add_row_Row x=s.addr (xs++ [x]):=by simp [Sto.addr,Sto.add_row_Row]
theorem vX (s:Sto):s.addr []=s:=by simp [Sto.addr]
theorem Rw.lt (h:Rw s W k):k < s.row_Row.length:=by obtain ⟨r,h,_⟩:=h; exact cz h
theorem Rw.addr {xs:List bf} (h:Rw s W k):Rw (s.addr xs) W k:=by
 obtain ⟨r,h1,h2⟩:=h;exact ⟨r,by rw [zr (cz h1)]; exact h1,h2⟩
theorem Gw.addr {xs:List bf} (h:Gw s g ks W):Gw (s.addr xs) g ks W:=⟨h.g,fun k hk=>(h.r k hk).addr,h.h1,h.h2,h.w1,h.w2⟩
theorem vp {xs:List bf} (h:k < s.row_Row.length):ln (s.addr xs) k=ln s k:=by unfold ln; rw [zr h]
theorem C4 {xs:List bf} {i:Nat} (h:i < xs.length):ln (s.addr xs) (s.row_Row.length+i)=⟨xs[i].cells,xs[i].wrap⟩:=nk (tA h)
def lr (x:ak):bf:=⟨x.Cells,x.Wrap⟩
theorem HI {L:List ak} (h1:1≤L.length) (h2:L.length≤1024)
  (hok:∀i (h:i < L.length),1≤L[i].Cells.length∧L[i].Cells.length≤1024∧Snd L[i].Cells∧L[i].Cells.length=(L[0]'(by omega)).Cells.length):
  wY s L=some ((s.addr (L.map lr)).add_grid_Grid ⟨(List.range' s.row_Row.length L.length).map some⟩,some s.grid_Grid.length,Er.nil):=by
 unfold wY;simp only [br,bsm];rw [af (by rw [aD,aV,an]; omega)];obtain ⟨t,h3,h4⟩:=dV (σ:=Int×Sto) (τ:=(Sto×(Option Nat)×Er) ⊕ Sto) (n:=L.length) (fuel:=((L.length:Int) - 0).toNat+1) (s:=(0,s.add_grid_Grid (⟨([]:List (Option Nat))⟩:bF)))
  (fun i q=>q=((i:Int),(s.addr ((L.take i).map lr)).add_grid_Grid ⟨(List.range' s.row_Row.length i).map some⟩))
  (fun t=>t= .inr ((s.addr (L.map lr)).add_grid_Grid ⟨(List.range' s.row_Row.length L.length).map some⟩))
  (step:=fun s_25=>
 if (decide (s_25.1 < (L.length:Int)))=true then
 (idx L s_25.1).bind fun x_29=>
 (np s_25.2 x_29.Cells).bind fun x_37=>
 ((bI x_37.2.2.isNil ((idx L 0).bind fun x_51=>
 (bD x_37.1 x_37.2.1).bind fun x_55=>
 some (x_55 != (x_51.Cells.length:Int)))).bind fun d_47=>
 if d_47=true then
 (some ((Er.sent 0)):Option (Er))
 else
 (some (x_37.2.2):Option (Er))).bind fun z_44=>
 if (!z_44.isNil)=true then
 (nN s_25.1 z_44).bind fun x_66=>
 some (.inr (.inl (x_37.1,(none:Option Nat),x_66)))
 else
 (dD x_37.1 x_37.2.1 x_29.Wrap).bind fun x_73=>
 (x_73.grid_Grid[s.grid_Grid.length]?).bind fun o_79=>
 (app o_79.rows ([x_37.2.1]:List (Option Nat))).bind fun x_82=>
 (x_73.set_grid_Grid s.grid_Grid.length (⟨x_82⟩:bF)).bind fun s_85001=>
 some (.inl ((w64 (s_25.1+1)),s_85001))
 else
 some (.inr (.inr (s_25.2))))
  (fun i q hi e=>by
   subst e;refine .inl ⟨_,?_,rfl⟩;obtain ⟨k1,k2,k3,k4⟩:=hok i hi;have e5:w64 ((i:Int)+1)=((i+1:Nat):Int):=by rw [aF (by omega)]; simp
   have hd:decide ((i:Int) < (L.length:Int))=true:=by simp; exact hi
   have h0:idx L (0:Int)=some (L[0]'(by omega)):=bc (i:=0) (by omega);simp only [hd,bm,bc hi,bsm];rw [CJ k1 k2 k3];simp only [bsm,Er.isNil,gq,h0];rw [iS (uS _ _)];simp only [bsm,k4,Ih,aj,aU,cP];rw [sN (uS _ _),DO];simp only [bsm];have hg:(((s.addr ((L.take i).map lr)).add_grid_Grid ⟨(List.range' s.row_Row.length i).map some⟩).add_row_Row ⟨L[i].Cells,L[i].Wrap⟩).grid_Grid[s.grid_Grid.length]? = some ⟨(List.range' s.row_Row.length i).map some⟩:=by
    simp [Sto.add_grid_Grid,Sto.add_row_Row,Sto.addr]
   rw [hg];simp only [bsm];rw [cK (by simp; omega)];simp only [bsm];rw [uY (cz hg),e5];simp only [bsm]
   congr 4
   refine Cq ?_ ?_ rfl
   ·simp only [Sto.sg,Sto.add_grid_Grid,Sto.add_row_Row,Sto.addr];rw [av hi,bG,aK];rfl
   ·simp only [Sto.sg,Sto.add_grid_Grid,Sto.add_row_Row,Sto.addr];rw [ll _ _ (az _),mb,mW,xW,bG];simp [Sto.add_grid_Grid,Sto.add_row_Row,Sto.addr];exact cp (qm hi))
  (fun q e=>⟨_,by subst e; simp,rfl⟩)
  (by simp [vX]) (by omega)
 subst h4;rw [h3];rfl
theorem Fl {L:List ak} (h1:1≤L.length) (h2:L.length≤1024)
  (hok:∀i (h:i < L.length),1≤L[i].Cells.length∧L[i].Cells.length≤1024∧Snd L[i].Cells∧L[i].Cells.length=(L[0]'(by omega)).Cells.length):
  Gw ((s.addr (L.map lr)).add_grid_Grid ⟨(List.range' s.row_Row.length L.length).map some⟩) s.grid_Grid.length (List.range' s.row_Row.length L.length) (L[0]'(by omega)).Cells.length∧
   (List.range' s.row_Row.length L.length).map (ln ((s.addr (L.map lr)).add_grid_Grid ⟨(List.range' s.row_Row.length L.length).map some⟩))=L:=by
 have hr:∀i (h:i < L.length),((s.addr (L.map lr)).add_grid_Grid ⟨(List.range' s.row_Row.length L.length).map some⟩).row_Row[s.row_Row.length+i]? = some (lr L[i]):=fun i h=>by
  have:=tA (s:=s) (xs:=L.map lr) (i:=i) (by simpa using h);rw [dR] at this;exact this
 refine ⟨⟨by simp [Sto.add_grid_Grid,Sto.addr],fun k hk=>?_,by simpa using h1,by simpa using h2,(hok 0 (by omega)).1,(hok 0 (by omega)).2.1⟩,?_⟩
 ·rw [zv] at hk;have hi:k - s.row_Row.length < L.length:=by omega
  have:=hr _ hi;rw [show s.row_Row.length+(k - s.row_Row.length)=k by omega] at this;exact ⟨_,this,(hok _ hi).2.2.1,(hok _ hi).2.2.2⟩
 ·refine Iv (by simp) fun i h1 h2=>?_;rw [dR,List.getElem_range',nc,nk (hr i h2)];rfl
theorem icl (a:Int) (m:Nat):aE 0 (aB a (m:Int))=((cl a m:Nat):Int):=by simp only [eX,dq,cl]; omega
theorem wH (h:Gw s g ks W) (a b n:Int):lx s (some g) a b n=some (⟨(cl a ks.length:Nat),(cl b ks.length:Nat),min n ((cl b ks.length:Int) - (cl a ks.length:Int))⟩,decide (cl a ks.length < cl b ks.length) && decide (0 < n)):=by
 have h1:=mX a ks.length;have h2:=mX b ks.length;have hh:=h.h2;unfold lx;rw [eL h];simp only [bsm,icl,aZ];rw [dq,aF (by omega)];simp
theorem um (h:Gw s g ks W) {a b:Nat} (hab:a≤b) (hb:b≤ks.length):jR s (some g) a b=some (((ks.drop a).take (b - a)).map some):=by
 have hh:=h.h2;unfold jR;obtain ⟨t,h1,h2⟩:=dV (σ:=(List (Option Nat))×Int) (τ:=List (Option Nat)) (n:=b - a) (fuel:=((b:Int) - (a:Int)).toNat+1) (s:=(([]:List (Option Nat)),(a:Int)))
  (fun i q=>q=(((ks.drop a).take i).map some,((a+i:Nat):Int))) (fun t=>t=((ks.drop a).take (b - a)).map some)
  (step:=fun s_8=>
 if (decide (s_8.2 < (b:Int)))=true then
 (bw s (some g) s_8.2).bind fun x_16=>
 (app s_8.1 ([x_16]:List (Option Nat))).bind fun x_18=>
 some (.inl (x_18,(w64 (s_8.2+1))))
 else
 some (.inr (s_8.1)))
  (fun i q hi e=>by
   subst e;refine .inl ⟨_,?_,rfl⟩;have e5:w64 (((a+i:Nat):Int)+1)=((a+(i+1):Nat):Int):=by rw [aF (by omega)]; simp; omega
   have hd:decide (((a+i:Nat):Int) < (b:Int))=true:=by simp; omega
   simp only [hd,bm];rw [eY h (show a+i < ks.length by omega)];simp only [bsm,e5];rw [cK (by simp; omega)];simp only [bsm];rw [av (by simp; omega),bG];simp)
  (fun q e=>by
   subst e;have hd:decide (((a+(b - a):Nat):Int) < (b:Int))=false:=by simp; omega
   exact ⟨_,by simp only [hd]; rfl,rfl⟩)
  (by simp) (by omega)
 subst h2;rw [h1];rfl
def bk (W:Nat):bf:=⟨List.replicate W bl,false⟩
theorem rI (h:Gw s g ks W) {n:Nat} (hn:n≤1024):iO s (some g) n=some (s.addr (List.replicate n (bk W)),(List.range' s.row_Row.length n).map some):=by
 unfold iO;obtain ⟨t,h1,h2⟩:=dV (σ:=(List (Option Nat))×Int×Sto) (τ:=(List (Option Nat))×Sto) (n:=n) (fuel:=((n:Int) - 0).toNat+1) (s:=(([]:List (Option Nat)),0,s))
  (fun i q=>q=((List.range' s.row_Row.length i).map some,(i:Int),s.addr (List.replicate i (bk W)))) (fun t=>t=((List.range' s.row_Row.length n).map some,s.addr (List.replicate n (bk W))))
  (step:=fun s_8=>
 if (decide (s_8.2.1 < (n:Int)))=true then
 (cg s_8.2.2 (some g)).bind fun x_13=>
 (kC s_8.2.2 x_13).bind fun x_14=>
 (app s_8.1 ([x_14.2]:List (Option Nat))).bind fun x_16=>
 some (.inl (x_16,(w64 (s_8.2.1+1)),x_14.1))
 else
 some (.inr (s_8.1,s_8.2.2)))
  (fun i q hi e=>by
   subst e;refine .inl ⟨_,?_,rfl⟩;have e5:w64 ((i:Int)+1)=((i+1:Nat):Int):=by rw [aF (by omega)]; simp
   have hd:decide ((i:Int) < (n:Int))=true:=by simp; exact hi
   simp only [hd,bm];rw [jm (h.addr (xs:=List.replicate i (bk W)))];simp only [bsm,xo,Az h.w1 h.w2,e5];rw [cK (by simp; omega)];simp only [bsm];rw [DN,DM,xW,bG,vY];simp [bk])
  (fun q e=>⟨_,by subst e; simp,rfl⟩)
  (by simp [vX]) (by omega)
 subst h2;rw [h1];rfl
def ov (ks:List Nat) (F:Nat) (p:List Nat):List Nat:=ks.take F++p++ks.drop (F+p.length)
theorem tQ {F:Nat} {p:List Nat} (h:F+p.length≤ks.length):(ov ks F p).length=ks.length:=by simp [ov]; omega
theorem FT {F i:Nat} {p:List Nat} (h:F+p.length≤ks.length) (hi:i < p.length):(ov ks F (p.take i)).set (F+i) p[i]=ov ks F (p.take (i+1)):=by
 unfold ov;have h1:(ks.take F++p.take i).length=F+i:=by simp; omega
 rw [ll _ _ (by omega),h1,mb,ay,ay,cp (qm hi),cp (show i+1≤p.length by omega),gw (show F+i < ks.length by omega),mW,av hi];simp only [aK,cm,ba,sw]
def off (s:Sto) (k:Nat):Sto:=s.sr k ⟨(ln s k).Cells,false⟩
theorem yR (h:Rw s W k):dD s (some k) false=some (off s k):=by
 obtain ⟨r,h1,_⟩:=h;rw [sN (l:=r.cells) (w:=r.wrap) h1];unfold off;rw [nk h1]
theorem Rw.off {j:Nat} (h:Rw s W j) (hk:Rw s W k):Rw (off s k) W j:=by
 obtain ⟨r,h1,h2,h3⟩:=h;obtain ⟨q,k1,k2,k3⟩:=hk;by_cases e:k=j
 ·subst e;exact ⟨_,rV (cz k1),by rw [nk k1]; exact ⟨k2,k3⟩⟩
 ·exact ⟨r,(yi e).trans h1,h2,h3⟩
theorem Gw.off (h:Gw s g ks W) (hk:Rw s W k):Gw (off s k) g ks W:=⟨h.g,fun j hj=>(h.r j hj).off hk,h.h1,h.h2,h.w1,h.w2⟩
theorem FY {j:Nat} (hk:Rw s W k):ln (off s k) j=if j=k then ⟨(ln s k).Cells,false⟩ else ln s j:=by
 by_cases e:k=j
 ·subst e;rw [ae rfl];exact nk (rV hk.lt)
 ·rw [af (rS e)];unfold ln;rw [show (Go.Proofs.YthokmpbbkpjhbaaGreatDoor.off s k).row_Row[j]? = s.row_Row[j]? from yi e]
theorem yI (x:bF) (j:Nat):ln (s.sg g x) j=ln s j:=rfl
def offa (s:Sto) (ks:List Nat) (F:Nat):Sto:=if F=0 then s else off s (ks.getD (F - 1) 0)
theorem vd (h:Gw s g ks W) {F:Nat} {p:List Nat} (hp:F+p.length≤ks.length) (hr:∀k∈p,Rw s W k) (st:gV) (hF:st.from_=(F:Int)):
  eM s st (some g) (p.map some)=some (offa (s.sg g ⟨(ov ks F p).map some⟩) (ov ks F p) F)∧Gw (s.sg g ⟨(ov ks F p).map some⟩) g (ov ks F p) W:=by
 have hh:=h.h2;have key:∀i,i≤p.length→Gw (s.sg g ⟨(ov ks F (p.take i)).map some⟩) g (ov ks F (p.take i)) W:=fun i hi=>
  ⟨Cw (cz h.g),fun k hk=>by
   unfold ov at hk;rw [uw,uw] at hk;rcases hk with (hk | hk) | hk
   ·exact h.r k (cO hk)
   ·exact hr k (cO hk)
   ·exact h.r k (fD hk),by rw [tQ (by simp; omega)]; exact h.h1,by rw [tQ (by simp; omega)]; exact h.h2,h.w1,h.w2⟩
 have kend:=key p.length (az _);rw [om] at kend;refine ⟨?_,kend⟩;unfold eM;rw [hF];obtain ⟨t,h1,h2⟩:=dV (σ:=Int×Sto) (τ:=Sto) (n:=p.length) (fuel:=(((p.map some).length:Int) - 0).toNat+1) (s:=((0:Int),s))
  (fun i q=>q=((i:Int),s.sg g ⟨(ov ks F (p.take i)).map some⟩)) (fun t=>t=s.sg g ⟨(ov ks F p).map some⟩)
  (step:=fun s_7=>
 if (decide (s_7.1 < ((p.map some).length:Int)))=true then
 (idx (p.map some) s_7.1).bind fun x_11=>
 (eE s_7.2 (some g) (w64 ((F:Int)+s_7.1)) x_11).bind fun x_22=>
 some (.inl ((w64 (s_7.1+1)),x_22.1))
 else
 some (.inr (s_7.2)))
  (fun i q hi e=>by
   subst e;refine .inl ⟨_,?_,rfl⟩;have e5:w64 ((i:Int)+1)=((i+1:Nat):Int):=by rw [aF (by omega)]; simp
   have e6:w64 ((F:Int)+(i:Int))=((F+i:Nat):Int):=by rw [aF (by omega)]; simp
   have hd:decide ((i:Int) < ((p.map some).length:Int))=true:=by simp; exact hi
   have hi2:i < (p.map some).length:=by simpa using hi
   have hk:=key i (qm hi);simp only [hd,bm,bc hi2,bsm,dR,e5,e6];have hl:(ov ks F (p.take i)).length=ks.length:=tQ (by simp; omega);rw [yP hk (show F+i < (ov ks F (p.take i)).length by omega) (hr _ (aG hi))];simp only [bsm];rw [FT hp hi,GT])
  (fun q e=>by
   subst e;rw [om];exact ⟨_,by simp,rfl⟩)
  (by
   simp only [eA,gS];refine ⟨rfl,(GU ?_).symm⟩;rw [h.g];simp [ov]) (by simp)
 subst h2;rw [h1];simp only [bsm];unfold offa;by_cases h0:F=0
 ·subst h0;rw [ae rfl,sZ kend (by left; rw [aF (by omega)]; omega)];rfl
 ·have e7:w64 ((F:Int) - 1)=((F - 1:Nat):Int):=by rw [aF (by omega)]; omega
  have hl:(ov ks F p).length=ks.length:=tQ hp;have hlt:F - 1 < (ov ks F p).length:=by omega
  rw [af h0,e7,eY kend hlt];simp only [bsm];rw [yR (kend.at hlt),aq,ag hlt];rfl
def dl:ak:=⟨[],false⟩
def mvb (W:Nat) (L:List ak) (F T m:Nat) (up:Bool) (i:Nat):ak:=
 if F≤i∧i < T then (if up=true then (if i+m < T then L.getD (i+m) dl else ⟨List.replicate W bl,false⟩) else (if F+m≤i then L.getD (i - m) dl else ⟨List.replicate W bl,false⟩)) else L.getD i dl
def mvl (W:Nat) (L:List ak) (F T m:Nat) (up:Bool) (i:Nat):ak:=
 if i+1=F∨(up=false∧i+1=T) then ⟨(mvb W L F T m up i).Cells,false⟩ else mvb W L F T m up i
def mv (W:Nat) (L:List ak) (F T:Nat) (n:Int) (up:Bool):List ak:=
 if F < T∧0 < n then (List.range L.length).map (mvl W L F T (min n ((T:Int) - (F:Int))).toNat up) else L
theorem gd {i:Nat} (h:i < ks.length):ks.getD i 0=ks[i]:=by rw [aq,ag h]; rfl
theorem gdl {L:List ak} {i:Nat} (h:i < L.length):L.getD i dl=L[i]:=by rw [aq,ag h]; rfl
theorem AJ (nd:ks.Nodup) {i j:Nat} (hj:j < ks.length) (hij:i < j):ks.getD i 0≠ks.getD j 0:=by
 rw [gd hj,gd (Nat.lt_trans hij hj)];exact List.pairwise_iff_getElem.1 nd i j _ _ hij
theorem C2 {h:Nat} {f:Nat→Nat} (hf:∀i j,i < j→j < h→f i≠f j):((List.range h).map f).Nodup:=by
 rw [List.Nodup,List.pairwise_map];exact List.pairwise_lt_range.imp_of_mem fun _ hb hlt=>hf _ _ hlt (List.mem_range.1 hb)
def kfu (ks:List Nat) (N F T m i:Nat):Nat:=if i < F∨T≤i then ks.getD i 0 else if i+m < T then ks.getD (i+m) 0 else N+(i+m - T)
def kfd (ks:List Nat) (N F T m i:Nat):Nat:=if i < F∨T≤i then ks.getD i 0 else if i < F+m then N+(i - F) else ks.getD (i - m) 0
theorem Hc {F T m:Nat} (N:Nat) (h1:F+m≤T) (h2:T≤ks.length):ov ks F ((ks.drop (F+m)).take (T - (F+m))++List.range' N m)=(List.range ks.length).map (kfu ks N F T m):=by
 refine bT fun i=>?_;rcases aO i ks.length with hi | hi
 ·rw [bE,dm hi,fp];have e:((ks.drop (F+m)).take (T - (F+m))++List.range' N m).length=T - F:=by simp; omega
  have et:(ks.take F).length=F:=by simp; omega
  have ex:((ks.drop (F+m)).take (T - (F+m))).length=T - (F+m):=by simp; omega
  unfold ov;rw [e,aK,fE,et];unfold kfu;by_cases c1:i < F
  ·rw [ae c1,ae (Or.inl c1),aS,ae c1,gd hi,ag hi]
  ·rw [af c1,fE,e];by_cases c2:T≤i
   ·rw [af (by omega),ae (Or.inr c2),bM,show F+(T - F)+(i - F - (T - F))=i by omega,gd hi,ag hi]
   ·rw [ae (by omega),af (by omega),fE,ex];by_cases c3:i+m < T
    ·rw [ae (by omega),ae c3,aS,ae (by omega),bM,show F+m+(i - F)=i+m by omega,gd (by omega),ag (by omega)]
    ·rw [af (by omega),af c3,HA (by omega),nc]
     congr 1
     omega
 ·rw [aP (by rw [tQ (by simp; omega)]; exact hi),aP (by simpa using hi)]
theorem Ez {F T m:Nat} (N:Nat) (h1:F+m≤T) (h2:T≤ks.length):ov ks F (List.range' N m++(ks.drop F).take (T - m - F))=(List.range ks.length).map (kfd ks N F T m):=by
 refine bT fun i=>?_;rcases aO i ks.length with hi | hi
 ·rw [bE,dm hi,fp];have e:(List.range' N m++(ks.drop F).take (T - m - F)).length=T - F:=by simp; omega
  have et:(ks.take F).length=F:=by simp; omega
  have ex:(List.range' N m).length=m:=by simp
  unfold ov;rw [e,aK,fE,et];unfold kfd;by_cases c1:i < F
  ·rw [ae c1,ae (Or.inl c1),aS,ae c1,gd hi,ag hi]
  ·rw [af c1,fE,e];by_cases c2:T≤i
   ·rw [af (by omega),ae (Or.inr c2),bM,show F+(T - F)+(i - F - (T - F))=i by omega,gd hi,ag hi]
   ·rw [ae (by omega),af (by omega),fE,ex];by_cases c3:i < F+m
    ·rw [ae (by omega),ae c3,HA (by omega),nc]
    ·rw [af (by omega),af c3,aS,ae (by omega),bM,show F+(i - F - m)=i - m by omega,gd (by omega),ag (by omega)]
 ·rw [aP (by rw [tQ (by simp; omega)]; exact hi),aP (by simpa using hi)]
theorem F3 (nd:ks.Nodup) {N F T m:Nat} (hN:∀k∈ks,k < N) (h1:F+m≤T) (h2:T≤ks.length) (i j:Nat) (hij:i < j) (hj:j < ks.length):kfu ks N F T m i≠kfu ks N F T m j:=by
 have lt:∀i,i < ks.length→ks.getD i 0 < N:=fun i hi=>by rw [gd hi]; exact hN _ (aG hi)
 have ne:∀a b,a < b→b < ks.length→ks.getD a 0≠ks.getD b 0:=fun a b hab hb=>AJ nd hb hab;have ne2:∀a b,b < a→a < ks.length→ks.getD a 0≠ks.getD b 0:=fun a b hab ha=>(AJ nd ha hab).symm;unfold kfu
 repeat' split
 all_goals first
  | exact ne _ _ (by omega) (by omega)
  | exact ne2 _ _ (by omega) (by omega)
  | (have:=lt i (by omega); omega)
  | (have:=lt j (by omega); omega)
  | (have:=lt (i+m) (by omega); omega)
  | (have:=lt (j+m) (by omega); omega)
  | omega
theorem F4 (nd:ks.Nodup) {N F T m:Nat} (hN:∀k∈ks,k < N) (h1:F+m≤T) (h2:T≤ks.length) (i j:Nat) (hij:i < j) (hj:j < ks.length):kfd ks N F T m i≠kfd ks N F T m j:=by
 have lt:∀i,i < ks.length→ks.getD i 0 < N:=fun i hi=>by rw [gd hi]; exact hN _ (aG hi)
 have ne:∀a b,a < b→b < ks.length→ks.getD a 0≠ks.getD b 0:=fun a b hab hb=>AJ nd hb hab;have ne2:∀a b,b < a→a < ks.length→ks.getD a 0≠ks.getD b 0:=fun a b hab ha=>(AJ nd ha hab).symm;unfold kfd
 repeat' split
 all_goals first
  | exact ne _ _ (by omega) (by omega)
  | exact ne2 _ _ (by omega) (by omega)
  | (have:=lt i (by omega); omega)
  | (have:=lt j (by omega); omega)
  | (have:=lt (i - m) (by omega); omega)
  | (have:=lt (j - m) (by omega); omega)
  | omega
theorem xx {h:Nat} {f:Nat→Nat} {B:Nat→ak} (hf:∀i j,i < j→j < h→f i≠f j) (hB:∀i,i < h→ln s (f i)=B i) {j:Nat} (hj:j < h) (hk:Rw s W (f j)) (i:Nat) (hi:i < h):
  ln (off s (f j)) (f i)=if i=j then ⟨(B j).Cells,false⟩ else B i:=by
 rw [FY hk,hB j hj];by_cases e:i=j
 ·subst e; rw [ae rfl,ae rfl]
 ·rw [af,af e,hB i hi];rcases H1 e with h | h
  ·exact hf i j h hj
  ·exact (hf j i h hi).symm
theorem yD (s:Sto) (ks:List Nat) (F:Nat):(offa s ks F).rst=s.rst:=by
 unfold offa;split <;> rfl
theorem lH {h i:Nat} {f:Nat→Nat} (hi:i < h):((List.range h).map f).getD i 0=f i:=by
 rw [gd (by simpa using hi)];simp
structure Rf (s s':Sto) (g:Nat) (ks:List Nat) (g':Nat) (ks':List Nat):Prop where
 gl:s.grid_Grid.length≤s'.grid_Grid.length
 rl:s.row_Row.length≤s'.row_Row.length
 gr:∀j,j < s.grid_Grid.length→j≠g→s'.grid_Grid[j]? = s.grid_Grid[j]?
 rw:∀j,j < s.row_Row.length→j∉ks→s'.row_Row[j]? = s.row_Row[j]?
 ng:g'=g∨s.grid_Grid.length≤g'
 nr:∀r∈ks',r∈ks∨s.row_Row.length≤r
theorem Rf.self (s:Sto) (g:Nat) (ks:List Nat):Rf s s g ks g ks:=⟨az _,az _,fun _ _ _=>rfl,fun _ _ _=>rfl,.inl rfl,fun _ h=> .inl h⟩
theorem Rf.rowoff {s':Sto} {ks':List Nat} (h:Rf s s' g ks g ks') {i:Nat} (hi:i∈ks'):Rf s (off s' i) g ks g ks':=by
 have e:(off s' i).row_Row=s'.row_Row.set i ⟨(ln s' i).Cells,false⟩:=rfl;refine ⟨h.gl,by rw [e,cq]; exact h.rl,h.gr,fun j h1 h2=>?_,h.ng,h.nr⟩;rw [e,aY ?_]
 ·exact h.rw j h1 h2
 ·rintro rfl;rcases h.nr _ hi with q | q
  ·exact h2 q
  ·omega
theorem Rf.aboff {s':Sto} {ks':List Nat} (h:Rf s s' g ks g ks') (F:Nat) (hF:F≤ks'.length):Rf s (offa s' ks' F) g ks g ks':=by
 unfold Go.Proofs.YthokmpbbkpjhbaaGreatDoor.offa;split
 ·exact h
 ·refine h.rowoff ?_;rw [gd (by omega)];exact aG _
theorem Rf.lay (xs:List bf) (x:bF) {ks':List Nat} (h:∀r∈ks',r∈ks∨s.row_Row.length≤r):Rf s ((s.addr xs).sg g x) g ks g ks':=by
 have e:((s.addr xs).sg g x).row_Row=s.row_Row++xs:=rfl;have e2:((s.addr xs).sg g x).grid_Grid=s.grid_Grid.set g x:=rfl;exact ⟨by rw [e2,cq]; exact az _,by rw [e,aA]; omega,fun j _ hj=>by rw [e2,aY (rS hj)],fun j hj _=>by rw [e,aI hj],.inl rfl,h⟩
theorem EB {N F T m:Nat} (hm:T≤ks.length) {r:Nat} (hr:r∈(List.range ks.length).map (kfu ks N F T m)):r∈ks∨N≤r:=by
 obtain ⟨i,hi,rfl⟩:=List.mem_map.1 hr;have hi:=List.mem_range.1 hi;unfold kfu;split
 ·rw [gd hi]; exact .inl (aG _)
 ·split
  ·rw [gd (by omega)]; exact .inl (aG _)
  ·exact .inr (by omega)
theorem EC {N F T m:Nat} (hm:T≤ks.length) {r:Nat} (hr:r∈(List.range ks.length).map (kfd ks N F T m)):r∈ks∨N≤r:=by
 obtain ⟨i,hi,rfl⟩:=List.mem_map.1 hr;have hi:=List.mem_range.1 hi;unfold kfd;split
 ·rw [gd hi]; exact .inl (aG _)
 ·split
  ·exact .inr (by omega)
  ·rw [gd (by omega)]; exact .inl (aG _)
theorem zy (h:Gw s g ks W) (nd:ks.Nodup) (a b n:Int):∃s' ks',kg s (some g) a b n=some s'∧(Gw s' g ks' W∧ks'.Nodup∧ks'.length=ks.length∧
  ks'.map (ln s')=mv W (ks.map (ln s)) (cl a ks.length) (cl b ks.length) n true)∧s'.rst=s.rst∧Rf s s' g ks g ks':=by
 have hF:=mX a ks.length;have hT:=mX b ks.length;have hh:=h.h2;have hN:∀k∈ks,k < s.row_Row.length:=fun k hk=>(h.r k hk).lt;unfold kg;rw [wH h];simp only [bsm];generalize cl a ks.length=F at *;generalize cl b ks.length=T at *;unfold mv;by_cases hc:F < T∧0 < n
 ·obtain ⟨m,hm⟩:∃m:Nat,min n ((T:Int) - (F:Int))=(m:Int):=⟨(min n ((T:Int) - (F:Int))).toNat,by omega⟩;have hm2:F+m≤T∧1≤m:=by omega
  rw [ae (by simp; omega),ae hc,hm,aF (by omega),show ((F:Int)+(m:Int))=((F+m:Nat):Int) by simp,um h hm2.1 hT];simp only [bsm];rw [rI h (by omega)];simp only [bsm];rw [cK (by simp; omega),←bG];simp only [bsm];have h1:=h.addr (xs:=List.replicate m (bk W));have hlen:((ks.drop (F+m)).take (T - (F+m))++List.range' s.row_Row.length m).length=T - F:=by simp; omega
  obtain ⟨h3,h4⟩:=vd h1 (F:=F) (p:=(ks.drop (F+m)).take (T - (F+m))++List.range' s.row_Row.length m) (by rw [hlen]; omega) (fun k hk=>by
   rcases List.mem_append.1 hk with hk | hk
   ·exact h1.r k (fD (cO hk))
   ·rw [zv] at hk;have:=tA (s:=s) (xs:=List.replicate m (bk W)) (i:=k - s.row_Row.length) (by simp; omega);rw [show s.row_Row.length+(k - s.row_Row.length)=k by omega,jg] at this;exact ⟨_,this,tE W,by simp [bk]⟩) ⟨(F:Int),(T:Int),(m:Int)⟩ rfl
  rw [h3];rw [Hc s.row_Row.length hm2.1 hT] at h4⊢;have ne:=F3 nd (N:=s.row_Row.length) (F:=F) (T:=T) (m:=m) hN hm2.1 hT;have hB:∀i,i < ks.length→ln ((s.addr (List.replicate m (bk W))).sg g ⟨((List.range ks.length).map (kfu ks s.row_Row.length F T m)).map some⟩) (kfu ks s.row_Row.length F T m i)=mvb W (ks.map (ln s)) F T m true i:=by
   intro i hi;rw [yI];have old:∀j,j < ks.length→ln (s.addr (List.replicate m (bk W))) (ks.getD j 0)=(ks.map (ln s)).getD j dl:=fun j hj=>by
    rw [gdl (by simpa using hj),gd hj,vp (hN _ (aG hj)),dR]
   unfold kfu mvb;by_cases c1:i < F∨T≤i
   ·rw [ae c1,af (show ¬(F≤i∧i < T) by omega),old i hi]
   ·rw [af c1,ae (show F≤i∧i < T by omega),ae rfl];by_cases c2:i+m < T
    ·rw [ae c2,ae c2,old _ (by omega)]
    ·rw [af c2,af c2,C4 (by simp; omega),jg];rfl
  refine ⟨_,(List.range ks.length).map (kfu ks s.row_Row.length F T m),rfl,⟨?_,C2 ne,by simp,?_⟩,yD _ _ _,(Rf.lay _ _ fun r hr=>EB hT hr).aboff F (by simp; omega)⟩
  ·unfold offa;split
   ·exact h4
   ·refine h4.off ?_;rw [lH (by omega)];exact h4.r _ (List.mem_map.2 ⟨F - 1,List.mem_range.2 (by omega),rfl⟩)
  ·rw [db,GE];refine dk fun i hi=>?_;have hi:=List.mem_range.1 hi;simp only [Function.comp,bU];unfold offa mvl;by_cases h0:F=0
   ·rw [ae h0,af (by simp; omega),hB i hi]
   ·rw [af h0,lH (by omega),xx ne hB (by omega) (h4.r _ (List.mem_map.2 ⟨F - 1,List.mem_range.2 (by omega),rfl⟩)) i hi];by_cases e:i=F - 1
    ·rw [ae e,ae (by omega),e]
    ·rw [af e,af (by simp; omega)]
 ·rw [af (by simp; omega),af hc];exact ⟨s,ks,rfl,⟨h,nd,rfl,rfl⟩,rfl,Rf.self _ _ _⟩
theorem yX (h:Gw s g ks W) (nd:ks.Nodup) (a b n:Int):∃s' ks',jS s (some g) a b n=some s'∧(Gw s' g ks' W∧ks'.Nodup∧ks'.length=ks.length∧
  ks'.map (ln s')=mv W (ks.map (ln s)) (cl a ks.length) (cl b ks.length) n false)∧s'.rst=s.rst∧Rf s s' g ks g ks':=by
 have hF:=mX a ks.length;have hT:=mX b ks.length;have hh:=h.h2;have hN:∀k∈ks,k < s.row_Row.length:=fun k hk=>(h.r k hk).lt;unfold jS;rw [wH h];simp only [bsm];generalize cl a ks.length=F at *;generalize cl b ks.length=T at *;unfold mv;by_cases hc:F < T∧0 < n
 ·obtain ⟨m,hm⟩:∃m:Nat,min n ((T:Int) - (F:Int))=(m:Int):=⟨(min n ((T:Int) - (F:Int))).toNat,by omega⟩;have hm2:F+m≤T∧1≤m:=by omega
  have h1:=h.addr (xs:=List.replicate m (bk W));rw [ae (by simp; omega),ae hc,hm,rI h (by omega)];simp only [bsm];rw [aF (by omega),show ((T:Int) - (m:Int))=((T - m:Nat):Int) by omega,um h1 (by omega) (by omega)];simp only [bsm];rw [cK (by simp; omega),←bG];simp only [bsm];have hlen:(List.range' s.row_Row.length m++(ks.drop F).take (T - m - F)).length=T - F:=by simp; omega
  obtain ⟨h3,h4⟩:=vd h1 (F:=F) (p:=List.range' s.row_Row.length m++(ks.drop F).take (T - m - F)) (by rw [hlen]; omega) (fun k hk=>by
   rcases List.mem_append.1 hk with hk | hk
   ·rw [zv] at hk;have:=tA (s:=s) (xs:=List.replicate m (bk W)) (i:=k - s.row_Row.length) (by simp; omega);rw [show s.row_Row.length+(k - s.row_Row.length)=k by omega,jg] at this;exact ⟨_,this,tE W,by simp [bk]⟩
   ·exact h1.r k (fD (cO hk))) ⟨(F:Int),(T:Int),(m:Int)⟩ rfl
  rw [h3];rw [Ez s.row_Row.length hm2.1 hT] at h4⊢;have ne:=F4 nd (N:=s.row_Row.length) (F:=F) (T:=T) (m:=m) hN hm2.1 hT;have hB:∀i,i < ks.length→ln ((s.addr (List.replicate m (bk W))).sg g ⟨((List.range ks.length).map (kfd ks s.row_Row.length F T m)).map some⟩) (kfd ks s.row_Row.length F T m i)=mvb W (ks.map (ln s)) F T m false i:=by
   intro i hi;rw [yI];have old:∀j,j < ks.length→ln (s.addr (List.replicate m (bk W))) (ks.getD j 0)=(ks.map (ln s)).getD j dl:=fun j hj=>by
    rw [gdl (by simpa using hj),gd hj,vp (hN _ (aG hj)),dR]
   unfold kfd mvb;by_cases c1:i < F∨T≤i
   ·rw [ae c1,af (show ¬(F≤i∧i < T) by omega),old i hi]
   ·rw [af c1,ae (show F≤i∧i < T by omega),af (show ¬(false=true) by simp)];by_cases c2:i < F+m
    ·rw [ae c2,af (show ¬(F+m≤i) by omega),C4 (by simp; omega),jg];rfl
    ·rw [af c2,ae (show F+m≤i by omega),old _ (by omega)]
  have hmem:∀j,j < ks.length→kfd ks s.row_Row.length F T m j∈(List.range ks.length).map (kfd ks s.row_Row.length F T m):=fun j hj=>List.mem_map.2 ⟨j,List.mem_range.2 hj,rfl⟩;have h5:Gw (offa ((s.addr (List.replicate m (bk W))).sg g ⟨((List.range ks.length).map (kfd ks s.row_Row.length F T m)).map some⟩) ((List.range ks.length).map (kfd ks s.row_Row.length F T m)) F) g ((List.range ks.length).map (kfd ks s.row_Row.length F T m)) W:=by
   unfold offa;split
   ·exact h4
   ·refine h4.off ?_;rw [lH (by omega)];exact h4.r _ (hmem _ (by omega))
  have hC:∀i,i < ks.length→ln (offa ((s.addr (List.replicate m (bk W))).sg g ⟨((List.range ks.length).map (kfd ks s.row_Row.length F T m)).map some⟩) ((List.range ks.length).map (kfd ks s.row_Row.length F T m)) F) (kfd ks s.row_Row.length F T m i)=
    if i+1=F then ⟨(mvb W (ks.map (ln s)) F T m false i).Cells,false⟩ else mvb W (ks.map (ln s)) F T m false i:=by
   intro i hi;unfold offa;by_cases h0:F=0
   ·rw [ae h0,af (by omega),hB i hi]
   ·rw [af h0,lH (by omega),xx ne hB (by omega) (h4.r _ (hmem _ (by omega))) i hi];by_cases e:i=F - 1
    ·rw [ae e,ae (by omega),e]
    ·rw [af e,af (by omega)]
  have hlt:T - 1 < ((List.range ks.length).map (kfd ks s.row_Row.length F T m)).length:=by simp; omega
  simp only [bsm];rw [aF (by omega),show ((T:Int) - 1)=((T - 1:Nat):Int) by omega,eY h5 hlt];simp only [bsm];rw [yR (h5.at hlt)];simp only [bsm,dR,xY];refine ⟨_,(List.range ks.length).map (kfd ks s.row_Row.length F T m),rfl,⟨h5.off (h5.r _ (hmem _ (by omega))),C2 ne,by simp,?_⟩,yD _ _ _,((Rf.lay _ _ fun r hr=>EC hT hr).aboff F (by simp; omega)).rowoff (hmem _ (by omega))⟩;rw [db,GE];refine dk fun i hi=>?_;have hi:=List.mem_range.1 hi;simp only [Function.comp,bU];rw [xx ne hC (by omega) (h5.r _ (hmem _ (by omega))) i hi];unfold mvl;by_cases e:i=T - 1
  ·rw [ae e,af (show ¬(T - 1+1=F) by omega),ae (show i+1=F∨(false=false∧i+1=T) from Or.inr ⟨rfl,by omega⟩),e]
  ·rw [af e];by_cases e2:i+1=F
   ·rw [ae e2,ae (Or.inl e2)]
   ·rw [af e2,af (show ¬(i+1=F∨(false=false∧i+1=T)) by simp; omega)]
 ·rw [af (by simp; omega),af hc];exact ⟨s,ks,rfl,⟨h,nd,rfl,rfl⟩,rfl,Rf.self _ _ _⟩
theorem qv {L:List ak} (hl:L.length≤1024) (hW:W≤1024) (hL:∀x∈L,x.Cells.length=W) (a b n:Int) (up:Bool):
  dG L a b n up=some (mv W L (cl a L.length) (cl b L.length) n up):=by
 have hF:=mX a L.length;have hT:=mX b L.length;unfold dG;simp only [icl,br,bsm];generalize cl a L.length=F at *;generalize cl b L.length=T at *;unfold mv;by_cases hc:F < T∧0 < n
 ·obtain ⟨m,hm⟩:∃m:Nat,min n ((T:Int) - (F:Int))=(m:Int):=⟨(min n ((T:Int) - (F:Int))).toNat,by omega⟩;have hm2:F+m≤T∧1≤m:=by omega
  rw [af (by rw [aD,an,an]; omega),ae hc,aF (by omega),dq,hm,bU];obtain ⟨t,h1,h2⟩:=dV (σ:=(List ak)×Int) (τ:=List ak) (n:=L.length) (fuel:=((L.length:Int) - 0).toNat+1) (s:=(([]:List ak),0))
   (fun i q=>q=((List.range i).map (mvl W L F T m up),(i:Int))) (fun t=>t=(List.range L.length).map (mvl W L F T m up))
   (step:=fun s_41=>
 if (decide (s_41.2 < (L.length:Int)))=true then
 (idx L s_41.2).bind fun x_48=>
 ((bI (decide (s_41.2≥(F:Int))) (some (decide (s_41.2 < (T:Int))))).bind fun d_57=>
 if d_57=true then
 (if (!up)=true then
 (some ((w64 (s_41.2 - (m:Int)))):Option (Int))
 else
 (some ((w64 (s_41.2+(m:Int)))):Option (Int))).bind fun z_68=>
 (idx L s_41.2).bind fun x_79=>
 (rep (x_79.Cells.length:Int) (⟨0,([]:List Int)⟩:ab)).bind fun x_83=>
 (bI (decide (z_68≥(F:Int))) (some (decide (z_68 < (T:Int))))).bind fun d_90=>
 if d_90=true then
 (idx L z_68).bind fun x_98=>
 (some (x_98.Cells,x_98.Wrap):Option ((List ab)×Bool))
 else
 (some (x_83,false):Option ((List ab)×Bool))
 else
 (some (x_48.Cells,x_48.Wrap):Option ((List ab)×Bool))).bind fun z_53=>
 ((orE ((w64 (s_41.2+1))==(F:Int)) ((bI (!up) (some ((w64 (s_41.2+1))==(T:Int)))).bind fun d_111=>
 some d_111)).bind fun d_107=>
 if d_107=true then
 (some (false):Option (Bool))
 else
 (some (z_53.2):Option (Bool))).bind fun z_102=>
 (app s_41.1 ([(⟨z_53.1,z_102⟩:ak)]:List ak)).bind fun x_124=>
 some (.inl (x_124,(w64 (s_41.2+1))))
 else
 some (.inr (s_41.1)))
   (fun i q hi e=>by
    subst e;refine .inl ⟨_,?_,rfl⟩;have e5:w64 ((i:Int)+1)=((i+1:Nat):Int):=by rw [aF (by omega)]; simp
    have hd:decide ((i:Int) < (L.length:Int))=true:=by simp; exact hi
    have hlw:=hL _ (aG hi);simp only [hd,bm,bc hi,bsm,e5,aZ];have hz:(if (decide ((i:Int)≥(F:Int)) && decide ((i:Int) < (T:Int)))=true then
      (if (!up)=true then (some ((w64 ((i:Int) - (m:Int)))):Option (Int)) else (some ((w64 ((i:Int)+(m:Int)))):Option (Int))).bind fun z_68=>
      (rep (L[i].Cells.length:Int) (⟨0,([]:List Int)⟩:ab)).bind fun x_83=>
      if (decide (z_68≥(F:Int)) && decide (z_68 < (T:Int)))=true then
      (idx L z_68).bind fun x_98=>(some (x_98.Cells,x_98.Wrap):Option ((List ab)×Bool))
      else (some (x_83,false):Option ((List ab)×Bool))
      else (some (L[i].Cells,L[i].Wrap):Option ((List ab)×Bool)))=some ((mvb W L F T m up i).Cells,(mvb W L F T m up i).Wrap):=by
     unfold mvb;by_cases c1:F≤i∧i < T
     ·rw [ae (by simp; omega),ae c1]
      cases up with
      | true=>
       rw [af (by simp),ae rfl];simp only [bsm];rw [nV _ (by omega),aF (by omega),show ((i:Int)+(m:Int))=((i+m:Nat):Int) by simp];simp only [bsm];by_cases c2:i+m < T
       ·rw [ae (by simp; omega),ae c2,bc (show i+m < L.length by omega),gdl (by omega)];rfl
       ·rw [af (by simp; omega),af c2,bU,hlw];rfl
      | false=>
       rw [ae (by simp),af (by simp)];simp only [bsm];rw [nV _ (by omega),aF (by omega)];simp only [bsm];by_cases c2:F+m≤i
       ·rw [show ((i:Int) - (m:Int))=((i - m:Nat):Int) by omega,ae (by simp; omega),ae c2,bc (show i - m < L.length by omega),gdl (by omega)];rfl
       ·rw [af (by simp; omega),af c2,bU,hlw];rfl
     ·rw [af (by simp; omega),af c1,gdl hi]
    rw [hz];simp only [bsm];have hy:(orE (((i+1:Nat):Int)==(F:Int)) (some (!up && (((i+1:Nat):Int)==(T:Int)))))=some (decide (i+1=F∨(up=false∧i+1=T))):=by
     rw [br]
     congr 1
     rw [ci];simp only [aD,aV,aw,dv,an,Int.ofNat_inj]
    rw [hy];simp only [bsm];have hx:∀y:Bool,(if decide (i+1=F∨(up=false∧i+1=T))=true then (some false:Option Bool) else some y)=some (if i+1=F∨(up=false∧i+1=T) then false else y):=fun y=>by
     by_cases c:i+1=F∨(up=false∧i+1=T)
     ·rw [ae (by simpa using c),ae c]
     ·rw [af (by simpa using c),af c]
    rw [hx];simp only [bsm];rw [cK (by simp; omega)];simp only [bsm];have hz3:(⟨(mvb W L F T m up i).Cells,if i+1=F∨(up=false∧i+1=T) then false else (mvb W L F T m up i).Wrap⟩:ak)=mvl W L F T m up i:=by
     unfold mvl;split <;> rfl
    rw [hz3,pD,bG];rfl)
   (fun q e=>⟨_,by subst e; simp,rfl⟩)
   (by simp) (by omega)
  subst h2;rw [h1];rfl
 ·rw [ae (by rw [aD,an,an]; omega),af hc]
end Go.Proofs.YthokmpbbkpjhbaaGreatDoor
namespace Go.Proofs.YthokmpbbkpjhbaaGreatDoor
open Go Go.Lt
variable {s:Sto} {k:Nat} {l p:List ab} {w:Bool}
theorem yo (p:List Int) (hp:p.length≤1000000):jq p=some (p.map fM):=by
 unfold jq;rw [nV _ (by omega),nV _ (by omega)];simp only [bsm];obtain ⟨t,h1,h2⟩:=dV (σ:=(List Int)×Int) (τ:=List Int) (n:=p.length) (fuel:=((p.length:Int) - 0).toNat+1) (s:=(List.replicate (0:Int).toNat 0,0))
  (fun i q=>q=((p.take i).map fM,(i:Int))) (fun t=>t=p.map fM)
  (step:=fun s_12=>
 if (decide (s_12.2 < (p.length:Int)))=true then
 (idx p s_12.2).bind fun x_15=>
 ((eZ x_15).bind fun x_21=>
 if (!x_21)=true then
 (some (65533):Option (Int))
 else
 (some (x_15):Option (Int))).bind fun z_19=>
 (app s_12.1 ([z_19]:List Int)).bind fun x_29=>
 some (.inl (x_29,(w64 (s_12.2+1))))
 else
 some (.inr (s_12.1)))
  (fun i q hi e=>by
   subst e;refine .inl ⟨_,?_,rfl⟩;have e5:w64 ((i:Int)+1)=((i+1:Nat):Int):=by rw [aF (by omega)]; simp
   have hd:decide ((i:Int) < (p.length:Int))=true:=by simp; exact hi
   simp only [hd,bm,bc hi,bsm,tH,e5];have hz:(if (!vld p[i])=true then (some (65533):Option Int) else some p[i])=some (fM p[i]):=by
    unfold fM
    cases vld p[i] <;> rfl
   rw [hz];simp only [bsm];rw [cK (by simp; omega)];simp only [bsm];rw [av hi,bG];rfl)
  (fun q e=>⟨_,by subst e; simp,rfl⟩)
  rfl (by omega)
 subst h2;rw [h1];rfl
theorem A4 (wide:Int) (t:List Int) (ht:t.length≤9223372036854775807):oL wide t=some (dZ wide (fx t)):=by
 unfold oL;have hz:(if (decide (wide≥2))=true then (app ([(⟨0,([]:List Int)⟩:ab)]:List ab) ([(⟨0,([]:List Int)⟩:ab)]:List ab)).bind fun x_14=>(some (x_14):Option ((List ab))) else
   (some (([(⟨0,([]:List Int)⟩:ab)]:List ab)):Option ((List ab))))=some (if 2≤wide then [bl,bl] else [bl]):=by
  by_cases h:2≤wide
  ·rw [ae (by simpa using h),ae h,cK (by simp)];rfl
  ·rw [af (by simpa using h),af h];rfl
 rw [hz];simp only [bsm];unfold dZ;by_cases h0:t= []
 ·subst h0;rw [ae (show ((([]:List Int).length:Int)==0)=true from rfl),ae (show fx []= [] from rfl)];by_cases h:2≤wide
  ·rw [ae h,ae (show wide > 1 by omega)]
  ·rw [af h,af (show ¬(wide > 1) by omega)]
 ·have hl:0 < t.length:=List.length_pos_iff.2 h0;have hf:fx t≠ []:=by
   have:=AU t;intro h;rw [h,aQ] at this;omega
  rw [af (by rw [aV]; omega),af hf,dq,show (min (t.length:Int) 16)=((min t.length 16:Nat):Int) by omega,show (0:Int)=((0:Nat):Int) from rfl,nU (cG _) (Nat.min_le_left _ _)];simp only [bsm];rw [yo _ (by simp; omega)];have ef:((t.drop 0).take (min t.length 16 - 0)).map fM=fx t:=by
   unfold fx;rw [jy,nH]
   congr 1
   rcases Nat.le_total t.length 16 with h | h
   ·rw [cp h,aC (az _),aC h]
   ·rw [Nat.min_eq_right h]
  rw [ef];by_cases h:2≤wide
  ·rw [ae h,ae (show wide > 1 by omega),show decide (wide≥2)=true by simpa using h];rfl
  ·rw [af h,af (show ¬(wide > 1) by omega),show decide (wide≥2)=false by simpa using h];rfl
theorem Bb (wide:Int) (t:List Int):1≤(dZ wide t).length∧(dZ wide t).length≤2:=by
 unfold dZ
 repeat' split
 all_goals simp
theorem zB (wide:Int) (t:List Int):Snd (dZ wide (fx t)):=Be wide (Ge t) (Gf t)
theorem Ho {t:List Int} (h:∀x∈t,vld x=true) (hl:t.length≤16):fx t=t:=by
 unfold fx;rw [aC hl]
 conv=>rhs; rw [←List.map_id t]
 refine dk fun x hx=>?_;unfold fM;rw [ae (h x hx)];rfl
theorem C3 (h:s.row_Row[k]? = some ⟨l,w⟩) (hs:Snd l) (hl:l.length≤1024) {a:Nat} (wide:Int) {t:List Int} (ht:t.length≤9223372036854775807) (ha:a+(dZ wide (fx t)).length≤l.length):
  lf s (some k) a wide t=some (s.sr k ⟨pl l a (dZ wide (fx t)),pw l w a (dZ wide (fx t)).length⟩,Er.nil):=by
 unfold lf;rw [A4 wide t ht];simp only [bsm];rw [ou h hs hl (zB wide t) (Bb wide _).1 ha];rfl
def mat (l:List ab) (i:Int):Option Nat:=if 0≤i∧i < l.length then (if kd l i.toNat=0 then none else if kd l i.toNat=3 then some (i.toNat - 1) else some i.toNat) else none
theorem xp (h:s.row_Row[k]? = some ⟨l,w⟩) {i:Int} (hi:¬(0≤i∧i < l.length)):fY s (some k) i=some (bl,false):=by
 unfold fY;rw [iS h];simp only [bsm,br];rw [ae (by simp; omega)];rfl
theorem F5 (hs:Snd l) (j:Nat):kd l j=0∨kd l j=1∨kd l j=2∨kd l j=3:=by
 rcases aO j l.length with h | h
 ·have:=(hs j h).1;unfold rgt at this;rw [kH h];split at this
  ·omega
  ·simp only [aw,aD,an] at this;omega
 ·exact .inl (mp h)
theorem EA (h:s.row_Row[k]? = some ⟨l,w⟩) (hs:Snd l) (i:Int) (hi: -9223372036854775808≤i∧i≤9223372036854775807):
  oE s (some k) i=some (match mat l i with | some j=>((j:Int),⟨kd l j,(l.getD j bl).Text⟩,true) | none=>(0,⟨0,[]⟩,false)):=by
 unfold oE mat;by_cases hin:0≤i∧i < l.length
 ·obtain ⟨j,rfl⟩:∃j:Nat,i=(j:Int):=⟨i.toNat,by omega⟩;have hj:j < l.length:=by omega
  rw [ae hin,yt h hj hs.sht,bU];have hkd:=kH hj;have hgd:l.getD j bl=l[j]:=by rw [aq,ag hj]; rfl
  simp only [bsm,gq];by_cases h3:kd l j=3
  ·obtain ⟨p1,p2⟩:=hs.three h3;have hj2:j - 1 < l.length:=by omega
   have hkd2:=kH hj2;rw [ae (by rw [aV,←hkd]; exact h3),aF (by omega),show ((j:Int) - 1)=((j - 1:Nat):Int) by omega,yt h hj2 hs.sht];simp only [bsm,gq];rw [af (show ¬kd l j=0 by omega),ae h3,af (by rw [aV,←hkd2]; omega),ae (by rw [aV,←hkd2]; exact p2)];simp only;rw [p2,aq,ag hj2];rfl
  ·rw [af (by rw [aV,←hkd]; exact h3)];simp only [bsm,gq];rcases F5 hs j with h0 | h1 | h2 | h4
   ·rw [af (by rw [aV,←hkd]; omega),af (by rw [aV,←hkd]; omega),ae h0]
   ·rw [ae (by rw [aV,←hkd]; exact h1),af (by omega),af h3];simp only;rw [h1,hgd]
   ·rw [af (by rw [aV,←hkd]; omega),ae (by rw [aV,←hkd]; exact h2),af (by omega),af h3];simp only;rw [h2,hgd]
   ·exact absurd h4 h3
 ·rw [af hin,xp h hin];rfl
theorem CV {a j:Nat} (h:a≤j∧j < a+p.length):pc l a p j=p.getD (j - a) bl:=by unfold pc; rw [ae h]
theorem FQ {a j:Nat} (h:¬(a≤j∧j < a+p.length)):pc l a p j=if tch l a p.length j=true then bl else l.getD j bl:=by unfold pc; rw [af h]
end Go.Proofs.YthokmpbbkpjhbaaGreatDoor
namespace Go.Proofs.YthokmpbbkpjhbaaGreatDoor
open Go Go.Lt
variable {s C:Sto} {g k W:Nat} {ks:List Nat} {l p:List ab} {w:Bool} {q:aa}
def Sto.sp (s:Sto) (k:Nat) (x:bi):Sto:={ s with place_Pen:=s.place_Pen.set k x}
theorem iR {x:bi} (h:k < s.place_Pen.length):s.set_place_Pen k x=some (s.sp k x):=by
 simp only [Sto.set_place_Pen,h,bm];rfl
theorem xi {x:bi} (h:k < s.place_Pen.length):(s.sp k x).place_Pen[k]? = some x:=by simp [Sto.sp,h]
theorem wE (s:Sto) (k:Nat) (x y:bi):(s.sp k x).sp k y=s.sp k y:=by simp [Sto.sp]
theorem Gw.sp (h:Gw s g ks W) (k:Nat) (x:bi):Gw (s.sp k x) g ks W:=⟨h.g,h.r,h.h1,h.h2,h.w1,h.w2⟩
def ownG (C:Sto) (k g:Nat):Prop:=∃x,C.place_Pen[k]? = some x∧x.G=some g
def ownR (C:Sto) (k r:Nat):Prop:=∃g y,ownG C k g∧C.grid_Grid[g]? = some y∧some r∈y.rows
structure Fr (C s:Sto) (k g:Nat) (ks:List Nat):Prop where
 pl:C.place_Pen.length≤s.place_Pen.length
 gl:C.grid_Grid.length≤s.grid_Grid.length
 rl:C.row_Row.length≤s.row_Row.length
 pn:∀j,j < C.place_Pen.length→j≠k→s.place_Pen[j]? = C.place_Pen[j]?
 gr:∀j,j < C.grid_Grid.length→¬ownG C k j→s.grid_Grid[j]? = C.grid_Grid[j]?
 rw:∀j,j < C.row_Row.length→¬ownR C k j→s.row_Row[j]? = C.row_Row[j]?
 ng:ownG C k g∨C.grid_Grid.length≤g
 nr:∀r∈ks,ownR C k r∨C.row_Row.length≤r
theorem Fr.self {p:bi} (h:s.place_Pen[k]? = some p) (hg:p.G=some g) (hk:s.grid_Grid[g]? = some ⟨ks.map some⟩):Fr s s k g ks:=
 ⟨az _,az _,az _,fun _ _ _=>rfl,fun _ _ _=>rfl,fun _ _ _=>rfl,.inl ⟨p,h,hg⟩,fun r hr=> .inl ⟨g,_,⟨p,h,hg⟩,hk,List.mem_map.2 ⟨r,hr,rfl⟩⟩⟩
theorem Fr.new (h1:C.place_Pen.length≤s.place_Pen.length) (h2:C.grid_Grid.length≤s.grid_Grid.length) (h3:C.row_Row.length≤s.row_Row.length) (h4:∀j,j < C.place_Pen.length→s.place_Pen[j]? = C.place_Pen[j]?)
  (h5:∀j,j < C.grid_Grid.length→s.grid_Grid[j]? = C.grid_Grid[j]?) (h6:∀j,j < C.row_Row.length→s.row_Row[j]? = C.row_Row[j]?) (h7:C.grid_Grid.length≤g) (h8:∀r∈ks,C.row_Row.length≤r):Fr C s k g ks:=
 ⟨h1,h2,h3,fun j a _=>h4 j a,fun j a _=>h5 j a,fun j a _=>h6 j a,.inr h7,fun r hr=> .inr (h8 r hr)⟩
theorem Fr.step {s':Sto} {g':Nat} {ks':List Nat} (h:Fr C s k g ks) (f:Rf s s' g ks g' ks') (hp:s'.place_Pen=s.place_Pen):Fr C s' k g' ks':=by
 refine ⟨by rw [hp]; exact h.pl,dA h.gl f.gl,dA h.rl f.rl,fun j a b=>by rw [hp]; exact h.pn j a b,fun j a b=>?_,fun j a b=>?_,?_,fun r hr=>?_⟩
 ·have:=h.gl;rw [f.gr j (by omega) ?_,h.gr j a b];rintro rfl;rcases h.ng with q | q
  ·exact b q
  ·omega
 ·have:=h.rl;rw [f.rw j (by omega) ?_,h.rw j a b];intro hj;rcases h.nr j hj with q | q
  ·exact b q
  ·omega
 ·rcases f.ng with rfl | q
  ·exact h.ng
  ·exact .inr (dA h.gl q)
 ·rcases f.nr r hr with q | q
  ·exact h.nr r q
  ·exact .inr (dA h.rl q)
theorem Fr.sp (h:Fr C s k g ks) (x:bi):Fr C (s.sp k x) k g ks:=
 ⟨by simp only [Sto.sp,cq]; exact h.pl,h.gl,h.rl,fun j a b=>by simp only [Sto.sp]; rw [aY (rS b)]; exact h.pn j a b,h.gr,h.rw,h.ng,h.nr⟩
theorem Fr.sr (h:Fr C s k g ks) {i:Nat} (hi:i∈ks) (r:bf):Fr C (s.sr i r) k g ks:=by
 refine h.step (s':=s.sr i r) ⟨az _,by simp [Sto.sr],fun _ _ _=>rfl,fun j _ b=>?_,.inl rfl,fun r hr=> .inl hr⟩ rfl;exact yi (fun e=>b (e▸ hi))
theorem Fr.addp (h:Fr C s k g ks) (x:bi):Fr C (s.add_place_Pen x) k g ks:=
 ⟨by have:=h.pl; simp only [Sto.add_place_Pen,aA]; omega,h.gl,h.rl,fun j a b=>by have:=h.pl; simp only [Sto.add_place_Pen]; rw [aI (by omega)]; exact h.pn j a b,h.gr,h.rw,h.ng,h.nr⟩
structure Rgp (s s':Sto):Prop where
 r:s'.row_Row=s.row_Row
 g:s'.grid_Grid=s.grid_Grid
 p:s'.place_Pen=s.place_Pen
theorem Rgp.self (s:Sto):Rgp s s:=⟨rfl,rfl,rfl⟩
theorem Rgp.symm {s s':Sto} (h:Rgp s s'):Rgp s' s:=⟨h.r.symm,h.g.symm,h.p.symm⟩
theorem Rgp.ownG {s s':Sto} (h:Rgp s s') (k g:Nat):ownG s' k g↔ownG s k g:=by unfold Go.Proofs.YthokmpbbkpjhbaaGreatDoor.ownG; rw [h.p]
theorem Rgp.ownR {s s':Sto} (h:Rgp s s') (k r:Nat):ownR s' k r↔ownR s k r:=by unfold Go.Proofs.YthokmpbbkpjhbaaGreatDoor.ownR; rw [h.g]; simp only [h.ownG]
theorem Fr.rgp {C' s':Sto} (h:Fr C s k g ks) (hC:Rgp C C') (hs:Rgp s s'):Fr C' s' k g ks:=by
 refine ⟨by rw [hC.p,hs.p]; exact h.pl,by rw [hC.g,hs.g]; exact h.gl,by rw [hC.r,hs.r]; exact h.rl,?_,?_,?_,?_,?_⟩
 ·rw [hC.p,hs.p]; exact h.pn
 ·rw [hC.g,hs.g]; simp only [hC.ownG]; exact h.gr
 ·rw [hC.r,hs.r]; simp only [hC.ownR]; exact h.rw
 ·rw [hC.g,hC.ownG]; exact h.ng
 ·rw [hC.r]; simp only [hC.ownR]; exact h.nr
theorem Fr.trans {B:Sto} {g0:Nat} {ks0:List Nat} (h:Fr B C k g0 ks0) (hg:∀j,ownG C k j→j=g0) (hr:∀j,ownR C k j→j∈ks0) (h':Fr C s k g ks):Fr B s k g ks:=by
 have hl:=h.gl;have hl2:=h.rl;have hl3:=h.pl;refine ⟨dA h.pl h'.pl,dA h.gl h'.gl,dA h.rl h'.rl,fun j a b=>?_,fun j a b=>?_,fun j a b=>?_,?_,fun r hr'=>?_⟩
 ·rw [h'.pn j (by omega) b,h.pn j a b]
 ·rw [h'.gr j (by omega) ?_,h.gr j a b];intro q;obtain rfl:=hg j q;rcases h.ng with q | q
  ·exact b q
  ·omega
 ·rw [h'.rw j (by omega) ?_,h.rw j a b];intro q;rcases h.nr j (hr j q) with q | q
  ·exact b q
  ·omega
 ·rcases h'.ng with q | q
  ·obtain rfl:=hg g q; exact h.ng
  ·exact .inr (by omega)
 ·rcases h'.nr r hr' with q | q
  ·exact h.nr r (hr r q)
  ·exact .inr (by omega)
structure Pv (C s:Sto) (k g_ W:Nat) (q:aa) (ks:List Nat):Prop where
 p:s.place_Pen[k]? = some ⟨some g_,q.At,q.Auto⟩
 g:Gw s g_ ks W
 nd:ks.Nodup
 l:ks.map (ln s)=q.L
 o:s.oth=C.oth
 f:Fr C s k g_ ks
theorem Pv.self (h:Pv C s k g W q ks):Pv s s k g W q ks:=⟨h.p,h.g,h.nd,h.l,rfl,Fr.self h.p rfl h.g.g⟩
theorem Pv.oG (h:Pv C s k g W q ks) (j:Nat) (hj:ownG s k j):j=g:=by
 obtain ⟨x,h1,h2⟩:=hj;rw [h.p] at h1;cases h1;exact (be h2).symm
theorem Pv.oR (h:Pv C s k g W q ks) (j:Nat) (hj:ownR s k j):j∈ks:=by
 obtain ⟨g',y,h1,h2,h3⟩:=hj;obtain rfl:=h.oG g' h1;rw [h.g.g] at h2;cases h2;obtain ⟨r,h4,h5⟩:=List.mem_map.1 h3;cases h5;exact h4
theorem Pv.len (h:Pv C s k g W q ks):q.L.length=ks.length:=by rw [←h.l,db]
theorem Pv.ok (h:Pv C s k g W q ks):∀x∈q.L,Okl W x:=by rw [←h.l]; exact wk h.g
theorem Pv.at (h:Pv C s k g W q ks) {i:Nat} (hi:i < ks.length):q.L[i]'(by rw [h.len]; exact hi)=ln s ks[i]:=by
 have:=h.l;have e:q.L[i]? = (ks.map (ln s))[i]? :=by rw [this]
 rw [ag (by rw [h.len]; exact hi),bE,ag hi] at e;exact be e
theorem Pv.set (h:Pv C s k g W q ks) (c:ai) (a:Bool):Pv C (s.sp k ⟨some g,c,a⟩) k g W ⟨q.L,c,a⟩ ks:=
 ⟨xi (cz h.p),h.g.sp _ _,h.nd,h.l,h.o,h.f.sp _⟩
theorem Pv.row (h:Pv C s k g W q ks) {i:Nat} (hi:i < ks.length) {r:bf} (hr:Snd r.cells) (hl:r.cells.length=W):Pv C (s.sr ks[i] r) k g W ⟨q.L.set i ⟨r.cells,r.wrap⟩,q.At,q.Auto⟩ ks:=by
 have hlt:=(h.g.at hi).lt;refine ⟨h.p,⟨h.g.g,fun j hj=>?_,h.g.h1,h.g.h2,h.g.w1,h.g.w2⟩,h.nd,?_,h.o,h.f.sr (aG hi) _⟩
 ·by_cases e:ks[i]=j
  ·subst e; exact ⟨r,rV hlt,hr,hl⟩
  ·obtain ⟨r0,h1,h2⟩:=h.g.r j hj;exact ⟨r0,(yi e).trans h1,h2⟩
 ·refine bT fun j=>?_;rw [bE,lB];rcases aO j ks.length with hj | hj
  ·rw [ag hj,fp];by_cases e:i=j
   ·subst e;rw [ae rfl,ae (by rw [h.len]; exact hi),nk (rV hlt)]
   ·have hne:ks[i]≠ks[j]:=by
     rcases H1 e with h1 | h1
     ·exact List.pairwise_iff_getElem.1 h.nd i j _ _ h1
     ·exact (List.pairwise_iff_getElem.1 h.nd j i _ _ h1).symm
    rw [af e,ag (by rw [h.len]; exact hj),h.at hj];unfold ln;rw [yi hne]
  ·rw [aP hj,af (by omega),aP (by rw [h.len]; exact hj)];rfl
def hc (c:ai) (W h:Nat):ai:=⟨max 0 (min c.Row ((h:Int) - 1)),max 0 (min c.Col ((W:Int) - 1)),c.Pending && (c.Col==(W:Int) - 1)⟩
theorem tg {n:Nat} (h1:1≤n) (h2:n≤1024):gP n=some (n:Int):=by
 unfold gP;rw [eX,dq]
 congr 1
 omega
theorem vi {n:Nat} (h1:1≤n) (h2:n≤1024):bY n=some (n:Int):=by
 unfold bY;rw [af (by simp; omega),af (by simp; omega)]
theorem oN (c:ai) {W h:Nat} (w1:1≤W) (w2:W≤1024) (h1:1≤h) (h2:h≤1024):fU c W h=some (hc c W h):=by
 unfold fU kS;rw [tg w1 w2,tg h1 h2];simp only [bsm,aZ];rw [aF (by omega),aF (by omega),eX,dq,eX,dq];rfl
theorem vh (n:Int) {m:Nat} (h1:1≤m) (h2:m≤1024):dS n m=some (max 0 (min n ((m:Int) - 1))):=by
 unfold dS;rw [aF (by omega)];by_cases a:n < 0
 ·rw [ae (by simpa using a)]
  congr 1
  omega
 ·rw [af (by simpa using a)];by_cases b:(m:Int)≤n
  ·rw [ae (by simpa using b)]
   congr 1
   omega
  ·rw [af (by simpa using b)]
   congr 1
   omega
theorem yv (c:ai) {W h:Nat} (w1:1≤W) (w2:W≤1024) (h1:1≤h) (h2:h≤1024):eO c W h=some (hc c W h):=by
 unfold eO;rw [vi h1 h2,vi w1 w2];simp only [bsm,aZ];rw [vh _ h1 h2,vh _ w1 w2,aF (by omega)];rfl
structure Hd (c:ai) (W h:Nat):Prop where
 rr:0≤c.Row∧c.Row < (h:Int)
 cc:0≤c.Col∧c.Col < (W:Int)
 pp:c.Pending=true→c.Col=(W:Int) - 1
theorem sX (c:ai) {W h:Nat} (w1:1≤W) (h1:1≤h):Hd (hc c W h) W h:=by
 refine ⟨by simp only [hc]; omega,by simp only [hc]; omega,fun hp=>?_⟩;simp only [hc,aw,aV] at hp⊢;omega
theorem Hi {c:ai} {W h:Nat} (hd:Hd c W h):hc c W h=c:=by
 obtain ⟨h1,h2,h3⟩:=hd;obtain ⟨a,b,d⟩:=c;simp only at h1 h2 h3;unfold hc;simp only [ai.mk.injEq];refine ⟨by omega,by omega,?_⟩
 cases d with
 | false=>rfl
 | true=>rw [h3 rfl]; simp
theorem wN (h:Pv C s k g W q ks):gn s (some k)=some (s.sp k ⟨some g,hc q.At W ks.length,q.Auto⟩,true):=by
 unfold gn;simp only [bL,fh,bsm,h.p,aj,aU];rw [jm h.g,eL h.g];simp only [bsm];rw [oN _ h.g.w1 h.g.w2 h.g.h1 h.g.h2];simp only [bsm];rw [iR (cz h.p)];rfl
theorem qu (h:Pv C s k g W q ks):cC q=some (W:Int):=by
 have hl:=h.len;have h1:=h.g.h1;have h0:idx q.L (0:Int)=some (q.L[0]'(by omega)):=bc (i:=0) (by omega);unfold cC;rw [h0];simp only [bsm];rw [(h.ok _ (aG _)).2]
theorem oy (h:Pv C s k g W q ks):ce q=some ⟨q.L,hc q.At W ks.length,q.Auto⟩:=by
 unfold ce;rw [qu h];simp only [bsm];rw [h.len,yv _ h.g.w1 h.g.w2 h.g.h1 h.g.h2];rfl
theorem vo (h:Pv C s k g W q ks):∃s' q' ks',fj s (some k)=some s'∧cY q=some q'∧Pv C s' k g W q' ks'∧ks'.length=ks.length∧
  Hd q'.At W ks.length∧q'.At.Pending=false∧q'.At.Col=(hc q.At W ks.length).Col∧q'.Auto=q.Auto:=by
 have h1:=h.set (hc q.At W ks.length) q.Auto;have hd:=sX q.At h.g.w1 h.g.h1;have hh:=h.g.h2;unfold fj cY;rw [wN h,oy h];generalize hc q.At W ks.length=c at *;simp only [bsm,cP,aj,aU];rw [h1.p];simp only [bsm];rw [eL h1.g];simp only [bsm];unfold my;rw [tg h.g.h1 h.g.h2];simp only [bsm];rw [aF (by omega),aF (by have:=hd.rr; omega),h.len];have hr:=hd.rr;by_cases he:(ks.length:Int) - 1≤c.Row
 ·rw [ae (by simpa using he),af (by simp; omega)];have h2:=h1.set ⟨c.Row,c.Col,false⟩ q.Auto;rw [wE] at h2;simp only [bsm];rw [iR (by rw [show (s.sp k ⟨some g,c,q.Auto⟩).place_Pen.length=s.place_Pen.length by simp [Sto.sp]]; exact cz h.p),wE];simp only [bsm,bm];rw [eL h2.g];simp only [bsm];obtain ⟨s',ks',u1,⟨u2,u3,u4,u5⟩,u6,u7⟩:=zy h2.g h2.nd 0 (ks.length:Int) 1;have hm:=qv (W:=W) (L:=q.L) (by rw [h.len]; exact hh) h.g.w2 (fun x hx=>(h.ok x hx).2) 0 (ks.length:Int) 1 true;rw [h.len] at hm;rw [u1,hm];refine ⟨s',_,ks',rfl,rfl,⟨?_,u2,u3,?_,(qY u6).trans h2.o,h2.f.step u7 (kA u6)⟩,u4,⟨hr,hd.cc,fun e=>by cases e⟩,rfl,rfl,rfl⟩
  ·rw [kA u6]; exact h2.p
  ·rw [u5,h2.l]
 ·rw [af (by simpa using he),ae (by simp; omega)];have h2:=h1.set ⟨c.Row+1,c.Col,false⟩ q.Auto;rw [wE] at h2;simp only [bsm];rw [iR (by rw [show (s.sp k ⟨some g,c,q.Auto⟩).place_Pen.length=s.place_Pen.length by simp [Sto.sp]]; exact cz h.p),wE];simp only [bsm,aj,aU];exact ⟨_,_,ks,rfl,rfl,h2,rfl,⟨by simp only; omega,hd.cc,fun e=>by cases e⟩,rfl,rfl,rfl⟩
theorem sP (h:Pv C s k g W q ks) {i:Nat} (hi:i < ks.length) (x:ak):bZ q i x=some ⟨q.L.set i x,q.At,q.Auto⟩:=by
 have hl:=h.len;have hh:=h.g.h2;unfold bZ;rw [cK (by simp; omega),ba];simp only [bsm];rw [bc (show i < q.L.length by omega),kN (show i < q.L.length by omega)];rfl
theorem AQ (h:Pv C s k g W q ks) (hd:0≤q.At.Row∧q.At.Row < (ks.length:Int)):∃s' q' ks',fF s (some k)=some s'∧cr q=some q'∧Pv C s' k g W q' ks'∧ks'.length=ks.length∧
  Hd q'.At W ks.length∧q'.At.Pending=false∧q'.At.Col=0∧q'.Auto=q.Auto:=by
 obtain ⟨i,hi⟩:∃i:Nat,q.At.Row=(i:Int):=⟨q.At.Row.toNat,by omega⟩;have hik:i < ks.length:=by omega
 have hl:=h.len;obtain ⟨r,r1,r2,r3⟩:=h.g.at hik;have hrow:=h.row hik (r:=⟨r.cells,true⟩) r2 r3;have h2:=hrow.set ⟨q.At.Row,0,false⟩ q.Auto;have w1:=h.g.w1;unfold fF cr;simp only [bsm,h.p,hi];rw [eY h.g hik];simp only [bsm];rw [sN (l:=r.cells) (w:=r.wrap) r1];simp only [bsm];rw [hrow.p];simp only [bsm,dp];rw [iR (cz hrow.p)];simp only [bsm];rw [bc (show i < q.L.length by omega),h.at hik,nk r1];simp only [bsm];rw [sP h hik];simp only [bsm,hi];obtain ⟨s',q',ks',n1,n2,n3,n4,n5,n6,n7,n8⟩:=vo h2;rw [hi] at n1 n2;rw [n1,n2];refine ⟨s',q',ks',rfl,rfl,n3,n4,n5,n6,?_,n8⟩;rw [n7];simp only [hc];omega
theorem yB (h:Pv C s k g W q ks) {i a:Nat} (hi:i < ks.length) (hp:Snd p) (hn:1≤p.length) (ha:a+p.length≤W):∃s' q',dP s (some ks[i]) a p=some (s',Er.nil)∧bX q i a p=some q'∧
  Pv C s' k g W q' ks∧q'.At=q.At∧q'.Auto=q.Auto∧q'.L=q.L.set i ⟨pl (ln s ks[i]).Cells a p,pw (ln s ks[i]).Cells (ln s ks[i]).Wrap a p.length⟩:=by
 obtain ⟨r,r1,r2,r3⟩:=h.g.at hi;have w2:=h.g.w2;have hl:=h.len;have hrow:=h.row hi (r:=⟨pl r.cells a p,pw r.cells r.wrap a p.length⟩) (r2.paint hp (by rw [r3]; exact ha)) (by rw [jC]; exact r3);refine ⟨_,_,ou (l:=r.cells) (w:=r.wrap) r1 r2 (by omega) hp hn (by omega),?_,hrow,rfl,rfl,by rw [nk r1]⟩;unfold bX;rw [bc (show i < q.L.length by omega),h.at hi,nk r1];simp only [bsm];rw [tN _ _ _ _ (by omega) (by omega) (by omega)];simp only [bsm];rw [sP h hi];rfl
end Go.Proofs.YthokmpbbkpjhbaaGreatDoor
namespace Go.Proofs.YthokmpbbkpjhbaaGreatDoor
open Go Go.Lt
def ca (c:ai) (d W:Nat) (au:Bool):ai:=if c.Col < (W:Int) - d then ⟨c.Row,c.Col+d,false⟩ else ⟨c.Row,(W:Int) - 1,au⟩
theorem BX (c:ai) {d W:Nat} (hd:d=1∨d=2) (w1:1≤W) (w2:W≤1024) (hc:0≤c.Col∧c.Col < (W:Int)) (au:Bool):ko c d W au=some (ca c d W au):=by
 unfold ko ca;rw [tg w1 w2];simp only [bsm,eX,dq];rw [show max (1:Int) (min (d:Int) 2)=(d:Int) by omega,aF (by omega),aF (by omega),aF (by omega)];by_cases h:c.Col < (W:Int) - d
 ·rw [ae (by simpa using h),ae h]
 ·rw [af (by simpa using h),af h]
theorem wM (c:ai) {d W:Nat} (hd:d=1∨d=2) (w1:1≤W) (w2:W≤1024) (hc:0≤c.Col∧c.Col < (W:Int)) (au:Bool):fy c d W au=some (ca c d W au):=by
 unfold fy ca;have hz:(if decide ((d:Int) > 1)=true then (some 2:Option Int) else some 1)=some (d:Int):=by
  rcases hd with rfl | rfl <;> rfl
 rw [hz];simp only [bsm];rw [vi w1 w2];simp only [bsm];rw [aF (by omega),aF (by omega),aF (by omega)];by_cases h:c.Col < (W:Int) - d
 ·rw [af (by simp; omega),ae h]
 ·rw [ae (by simp; omega),af h]
variable {s C:Sto} {g k W:Nat} {ks:List Nat} {q:aa}
theorem Hu {c:ai} {d h:Nat} (hd:d=1∨d=2) (w1:1≤W) (hc:0≤c.Col∧c.Col < (W:Int)) (hr:0≤c.Row∧c.Row < (h:Int)) (au:Bool):Hd (ca c d W au) W h:=by
 unfold ca;by_cases h:c.Col < (W:Int) - d
 ·rw [ae h];exact ⟨hr,by simp only; omega,fun e=>by cases e⟩
 ·rw [af h];exact ⟨hr,by simp only; omega,fun _=>rfl⟩
theorem nL (d:Nat) (hd:d=1∨d=2) (t:List Int):(dZ (d:Int) t).length=d:=by
 unfold dZ;rcases hd with rfl | rfl <;> (repeat' split) <;> first | rfl | (exfalso; omega)
def fld (q:aa):(List ak)×Int×Int×Bool×Bool:=(q.L,q.At.Row,q.At.Col,q.At.Pending,q.Auto)
def rp1 (q:aa):Option ((List ak)×Int×Int×Bool×Bool):=
 if q.At.Pending=true then
 (cr q).bind fun x_34=>
 (some (x_34.L,x_34.At.Row,x_34.At.Col,x_34.At.Pending,x_34.Auto):Option ((List ak)×Int×Int×Bool×Bool))
 else
 (some (q.L,q.At.Row,q.At.Col,q.At.Pending,q.Auto):Option ((List ak)×Int×Int×Bool×Bool))
def rp2 (d W:Int) (z_28:(List ak)×Int×Int×Bool×Bool):Option ((List ak)×Int×Int×Bool×Bool):=
 (bI (d==2) (some (z_28.2.2.1==(w64 (W - 1))))).bind fun d_40=>
 if d_40=true then
 if z_28.2.2.2.2=true then
 (rep 1 (⟨0,([]:List Int)⟩:ab)).bind fun x_58=>
 (bX (⟨z_28.1,(⟨z_28.2.1,z_28.2.2.1,z_28.2.2.2.1⟩:ai),z_28.2.2.2.2⟩:aa) z_28.2.1 (w64 (W - 1)) x_58).bind fun x_59=>
 (cr x_59).bind fun x_60=>
 (some (x_60.L,x_60.At.Row,x_60.At.Col,x_60.At.Pending,x_60.Auto):Option ((List ak)×Int×Int×Bool×Bool))
 else
 (some (z_28.1,z_28.2.1,(w64 (W - 2)),z_28.2.2.2.1,z_28.2.2.2.2):Option ((List ak)×Int×Int×Bool×Bool))
 else
 (some (z_28.1,z_28.2.1,z_28.2.2.1,z_28.2.2.2.1,z_28.2.2.2.2):Option ((List ak)×Int×Int×Bool×Bool))
def cp1 (s:Sto) (p0:Option Nat):Option Sto:=
 (p0).bind fun k_3=>
 (s.place_Pen[k_3]?).bind fun o_6=>
 if o_6.At.Pending=true then
 (fF s p0).bind fun x_9=>
 (some (x_9):Option (Sto))
 else
 (some (s):Option (Sto))
theorem Fg (h:Pv C s k g W q ks) (hd:Hd q.At W ks.length):∃s' q' ks',cp1 s (some k)=some s'∧rp1 q=some (fld q')∧Pv C s' k g W q' ks'∧ks'.length=ks.length∧Hd q'.At W ks.length∧q'.Auto=q.Auto∧q'.At.Pending=false:=by
 unfold cp1 rp1;simp only [bsm,h.p]
 cases hp:q.At.Pending with
 | false=>
  simp only [aj,aU];exact ⟨s,q,ks,rfl,by unfold fld; rw [hp],h,rfl,hd,rfl,hp⟩
 | true=>
  simp only [bm];obtain ⟨s',q',ks',a1,a2,a3,a4,a5,a6,a7,a8⟩:=AQ h hd.rr;rw [a1,a2];exact ⟨s',q',ks',rfl,rfl,a3,a4,a5,a8,a6⟩
theorem AF (h:Pv C s k g W q ks) (hd:Hd q.At W ks.length) {d:Nat} (hdd:d=1∨d=2) (hdw:d≤W):
  ∃s' q' ks' z,js s (some k) d=some s'∧rp1 q=some z∧rp2 d W z=some (fld q')∧Pv C s' k g W q' ks'∧ks'.length=ks.length∧(0≤q'.At.Row∧q'.At.Row < (ks.length:Int))∧(0≤q'.At.Col∧q'.At.Col+d≤(W:Int))∧q'.Auto=q.Auto:=by
 obtain ⟨s1,q1,ks1,a1,a2,v1,n1,hd1,au1,pe1⟩:=Fg h hd;have w1:=h.g.w1;have w2:=h.g.w2;have hcc:=hd1.cc;unfold js
 change ∃s' q' ks' z,((cp1 s (some k)).bind _)=some s'∧_
 rw [a1];simp only [bsm,v1.p];rw [jm v1.g];simp only [bsm,br];have e1:w64 ((W:Int) - 1)=((W - 1:Nat):Int):=by rw [aF (by omega)]; omega
 have e2:w64 ((W:Int) - 2)=(W:Int) - 2:=aF (by omega);rw [e1];unfold rp2;by_cases hA:d=1∨q1.At.Col < (W:Int) - 1
 ·rw [ae (by simp only [aD,aV,an]; omega)];refine ⟨s1,q1,ks1,_,rfl,a2,?_,v1,n1,hd1.rr,by omega,au1⟩;simp only [fld,aZ,bsm,e1];rw [af (by simp only [aw,aV]; omega)]
 ·rw [af (by simp only [aD,aV,an]; omega)];have hd2:d=2:=by omega
  have hcol:q1.At.Col=(W:Int) - 1:=by omega
  obtain ⟨i,hi⟩:∃i:Nat,q1.At.Row=(i:Int):=⟨q1.At.Row.toNat,by have:=hd1.rr; omega⟩;have hik:i < ks1.length:=by have:=hd1.rr; omega
  cases hau:q1.Auto with
  | true=>
   simp only [bm];rw [hi,eY v1.g hik];simp only [bsm];rw [show ey 1=some [bl] from uh 1];simp only [bsm];obtain ⟨s2,q2,b1,b2,v2,at2,au2,_⟩:=yB (p:=[bl]) (a:=W - 1) v1 hik (tE 1) (by decide) (by simp; omega);rw [b1];simp only [bsm];obtain ⟨s3,q3,ks3,c1,c2,v3,n3,hd3,pe3,co3,au3⟩:=AQ v2 (by rw [at2,n1]; exact hd1.rr);rw [c1];refine ⟨s3,q3,ks3,_,rfl,a2,?_,v3,n3.trans n1,by rw [←n1]; exact hd3.rr,by rw [co3]; omega,by rw [au3,au2,au1]⟩;simp only [fld,aZ,bsm,e1];rw [ae (by simp only [aw,aV]; omega)];simp only [hau,bm];rw [nV _ (by decide),hi];simp only [bsm];rw [show (List.replicate (1:Int).toNat (⟨0,[]⟩:ab))= [bl] from rfl];have b2':bX ⟨q1.L,⟨(i:Int),q1.At.Col,q1.At.Pending⟩,true⟩ i ((W - 1:Nat):Int) [bl]=some q2:=by rw [←hi,←hau]; rw [←hi] at b2; exact b2
   rw [b2'];simp only [bsm];rw [c2];rfl
  | false=>
   simp only [aj,aU];rw [iR (cz v1.p)];simp only [bsm];have e3:w64 (q1.At.Col - 1)=(W:Int) - 2:=by rw [aF (by omega)]; omega
   have v2:=v1.set ⟨q1.At.Row,(W:Int) - 2,q1.At.Pending⟩ q1.Auto;rw [hau] at v2;rw [e3];refine ⟨_,_,ks1,_,rfl,a2,?_,v2,n1,hd1.rr,by simp only; omega,by simp only; rw [←hau]; exact au1⟩;simp only [fld,aZ,bsm,e1,e2];rw [ae (by simp only [aw,aV]; omega)];simp only [hau,aj,aU]
def cl2 (p1:Int) (t:List Int) (W:Nat):Nat×List Int:=if max 1 (min p1 2) > (W:Int) then (1,[65533]) else ((max 1 (min p1 2)).toNat,t)
theorem Du (p1:Int) (t:List Int) (w1:1≤W):((cl2 p1 t W).1=1∨(cl2 p1 t W).1=2)∧(cl2 p1 t W).1≤W:=by
 unfold cl2;split
 ·exact ⟨.inl rfl,w1⟩
 ·simp only;omega
theorem Dt (p1:Int) (t:List Int):(if (decide ((aE 1 (aB p1 2)) > (W:Int)))=true then (some (1,([65533]:List Int)):Option (Int×(List Int))) else (some ((aE 1 (aB p1 2)),t):Option (Int×(List Int))))=some (((cl2 p1 t W).1:Int),(cl2 p1 t W).2):=by
 rw [dq,eX];unfold cl2;by_cases h:max 1 (min p1 2) > (W:Int)
 ·rw [ae (by simpa using h),ae h];rfl
 ·rw [af (by simpa using h),af h];simp only;rw [pJ (by omega)]
theorem zP (h:Pv C s k g W q ks) (p1:Int) (t:List Int) (ht:t.length≤1000000):∃(s':Sto) (q':aa) (ks':List Nat) (i a:Nat),i < ks.length∧iP s (some k) p1 t=some (s',⟨(i:Int),(a:Int),false⟩)∧aW q p1 t=some (q',⟨(i:Int),(a:Int),false⟩)∧
  Pv C s' k g W q' ks'∧ks'.length=ks.length∧Hd q'.At W ks.length∧q'.Auto=q.Auto∧a+(cl2 p1 t W).1≤W∧
  ∃l0 w0,l0.length=W∧q'.L[i]? = some ⟨pl l0 a (dZ (cl2 p1 t W).1 (fx (cl2 p1 t W).2)),w0⟩:=by
 have hl:(cl2 p1 t W).2.length≤1000000:=by unfold cl2; split <;> simp; exact ht
 obtain ⟨hdd,hdw⟩:=Du p1 t h.g.w1;have hce:=Dt (W:=W) p1 t;have w1:=h.g.w1;have w2:=h.g.w2;have h1:=h.set (hc q.At W ks.length) q.Auto;have hd:=sX q.At h.g.w1 h.g.h1;unfold iP aW;rw [wN h,oy h];generalize hc q.At W ks.length=c at *;simp only [bsm,cP,aj,aU,h1.p];rw [jm h1.g,qu h1];simp only [bsm];rw [hce];generalize (cl2 p1 t W).2=t2 at *;generalize (cl2 p1 t W).1=d at *;simp only [bsm];obtain ⟨s2,q2,ks2,z,a1,a2,a3,v2,n2,hr,hcl,au⟩:=AF h1 hd hdd hdw;rw [a1];obtain ⟨i,hi⟩:∃i:Nat,q2.At.Row=(i:Int):=⟨q2.At.Row.toNat,by omega⟩;obtain ⟨a,ha⟩:∃a:Nat,q2.At.Col=(a:Int):=⟨q2.At.Col.toNat,by omega⟩;have hik:i < ks2.length:=by omega
 obtain ⟨L2,⟨row2,col2,pd2⟩,ua2⟩:=q2;simp only at hi ha hr hcl au;subst hi ha;simp only [bsm,v2.p];rw [eY v2.g hik];simp only [bsm];unfold lf;rw [A4 _ _ (by omega)];simp only [bsm];have hsl:=nL d hdd (fx t2);obtain ⟨s3,q3,b1,b2,v3,at3,au3,l3⟩:=yB (p:=dZ d (fx t2)) (a:=a) v2 hik (zB _ _) (by rw [hsl]; omega) (by rw [hsl]; omega);rw [b1];simp only [bsm,v3.p];rw [jm v3.g];simp only [bsm];have hc2:0≤(⟨(i:Int),(a:Int),false⟩:ai).Col∧(⟨(i:Int),(a:Int),false⟩:ai).Col < (W:Int):=by simp only; omega
 rw [BX _ hdd w1 w2 hc2];simp only [bsm];rw [iR (cz v3.p)];simp only [bsm];have v4:=v3.set (ca ⟨(i:Int),(a:Int),false⟩ d W q3.Auto) q3.Auto
 change ∃s' q' ks' i_1 a_1,_∧_∧((rp1 ⟨q.L,c,q.Auto⟩).bind fun z_28=>(rp2 d W z_28).bind _)=_∧_
 rw [a2];simp only [bsm];rw [a3];simp only [fld,bsm];rw [CN _ _ (by omega)];simp only [bsm];rw [b2];simp only [bsm];rw [wM _ hdd w1 w2 hc2];simp only [bsm];refine ⟨_,_,ks2,i,a,by omega,rfl,rfl,v4,n2,Hu hdd w1 hc2 (by simp only; omega) _,by simp only; rw [au3,au],by omega,(ln s2 ks2[i]).Cells,pw (ln s2 ks2[i]).Cells (ln s2 ks2[i]).Wrap a (dZ d (fx t2)).length,?_,?_⟩
 ·have:=v2.ok _ (aG (show i < L2.length by have:=v2.len; simp only at this; omega));rw [v2.at hik] at this;exact this.2
 ·simp only;rw [l3,bq (by have:=v2.len; simp only at this⊢; omega)]
end Go.Proofs.YthokmpbbkpjhbaaGreatDoor
namespace Go.Proofs.YthokmpbbkpjhbaaGreatDoor
open Go Go.Lt
variable {s:Sto} {k g W:Nat} {l p p':List ab} {w:Bool} {q:aa} {ks:List Nat}
theorem sG (l:List ab) (a n j:Nat):tch l a n j=true↔(a≤j∧j < a+n)∨(kd l j=2∧a≤j+1∧j+1 < a+n)∨(kd l j=3∧a+1≤j∧j < a+n+1):=by
 simp only [tch,aD,aw,an];omega
theorem xt {c j:Nat} (h:¬(c≤j∧j < c+p.length)):pc l c p j=if (kd l j=2∧j+1=c∧0 < p.length)∨(kd l j=3∧j=c+p.length∧0 < p.length) then bl else l.getD j bl:=by
 rw [FQ h];by_cases ht:tch l c p.length j=true
 ·rw [ae ht,ae];rw [sG] at ht;omega
 ·rw [af ht,af];rw [sG] at ht;omega
theorem C8 {c j:Nat} (hj:j < l.length) (h:¬(c≤j∧j < c+p.length)):kd (pl l c p) j=if (kd l j=2∧j+1=c∧0 < p.length)∨(kd l j=3∧j=c+p.length∧0 < p.length) then 0 else kd l j:=by
 rw [C7 hj,xt h];split
 ·rfl
 ·exact ni l j
theorem xr {a c:Nat} (h1:a≤c) (h2:c+p.length≤a+p'.length) (h3:a+p'.length≤l.length):pl (pl l c p) a p'=pl l a p':=by
 apply bT;intro j;rcases aO j l.length with hj | hj
 ·rw [tP (by rw [jC]; exact hj),tP hj]
  congr 1
  by_cases hi:a≤j∧j < a+p'.length
  ·rw [CV hi,CV hi]
  ·have hc:¬(c≤j∧j < c+p.length):=by omega
   have hg:(pl l c p).getD j bl=pc l c p j:=by rw [aq,tP hj]; rfl
   rw [xt hi,xt hi,C8 hj hc,hg,xt hc];by_cases hA:(kd l j=2∧j+1=c∧0 < p.length)∨(kd l j=3∧j=c+p.length∧0 < p.length)
   ·rw [ae hA,ae hA,af (by omega),ae (by omega)]
   ·rw [af hA,af hA]
 ·rw [aP (by rw [jC,jC]; exact hj),aP (by rw [jC]; exact hj)]
theorem AG {a c:Nat} (h1:a≤c) (h2:c+p.length≤a+p'.length) (h3:a+p'.length≤l.length):pw (pl l c p) (pw l w c p.length) a p'.length=pw l w a p'.length:=by
 unfold pw;rw [jC];by_cases hl:0 < l.length
 ·have e:(tch l c p.length (l.length - 1) || tch (pl l c p) a p'.length (l.length - 1))=tch l a p'.length (l.length - 1):=by
   rw [ci,aD,sG,sG,sG];by_cases hc:c≤l.length - 1∧l.length - 1 < c+p.length
   ·omega
   ·rw [C8 (by omega) hc];split <;> omega
  rw [show decide (0 < l.length)=true by simpa using hl,du,du,Bool.and_assoc,←Bool.not_or,e,du]
 ·rw [show decide (0 < l.length)=false by simpa using hl];simp
end Go.Proofs.YthokmpbbkpjhbaaGreatDoor
namespace Go.Proofs.YthokmpbbkpjhbaaGreatDoor
open Go Go.Lt
variable {s C:Sto} {k g W:Nat} {l p p':List ab} {w:Bool} {q:aa} {ks:List Nat}
def rdy (q:aa) (W H d:Nat):Option ((List ak)×Int×Int×Bool×Bool):=(rp1 ⟨q.L,hc q.At W H,q.Auto⟩).bind (rp2 d W)
def BB (L:List ak) (i a d W:Nat) (au:Bool) (t:List Int):aa:=
 ⟨L.set i ⟨pl (L.getD i dl).Cells a (dZ d (fx t)),pw (L.getD i dl).Cells (L.getD i dl).Wrap a d⟩,ca ⟨(i:Int),(a:Int),false⟩ d W au,au⟩
theorem sQ {L:List ak} {c:ai} {au:Bool} {i a:Nat} (hi:i < L.length) (hL:L.length≤1024) (hw:(L.getD i dl).Cells.length≤1024) (hp:p.length≤1000000) (ha:a≤1000000):
  bX ⟨L,c,au⟩ i a p=some ⟨L.set i ⟨pl (L.getD i dl).Cells a p,pw (L.getD i dl).Cells (L.getD i dl).Wrap a p.length⟩,c,au⟩:=by
 unfold bX bZ;simp only [gdl hi] at hw⊢;simp only [bc hi,bsm];rw [tN _ _ _ _ (by omega) ha hp];simp only [bsm];rw [cK (by simp; omega),ba];simp only [bsm];rw [bc hi,kN hi];rfl
theorem ka {L2:List ak} {i a d:Nat} {pd au:Bool} (hdd:d=1∨d=2) (h:Pv C s k g W q ks) (hr:rdy q W ks.length d=some (L2,(i:Int),(a:Int),pd,au)) (hi:i < ks.length) (ha:a+d≤W) (hL:L2.length=ks.length) (hok:∀x∈L2,Okl W x) (p1:Int) (t:List Int) (ht:t.length≤1000000)
  (hcl:(cl2 p1 t W).1=d):aW q p1 t=some (BB L2 i a d W au (cl2 p1 t W).2,⟨(i:Int),(a:Int),false⟩):=by
 have hl:(cl2 p1 t W).2.length≤1000000:=by unfold cl2; split <;> simp; exact ht
 have hce:=Dt (W:=W) p1 t;have w1:=h.g.w1;have w2:=h.g.w2;have h1:=h.set (hc q.At W ks.length) q.Auto;have h2:=h.g.h2;unfold aW;rw [oy h];unfold rdy at hr;generalize hc q.At W ks.length=c at *;simp only [bsm];rw [qu h1];simp only [bsm];rw [hce,hcl];generalize (cl2 p1 t W).2=t2 at *;simp only [bsm];have hsl:=nL d hdd (fx t2);have hc2:0≤(⟨(i:Int),(a:Int),false⟩:ai).Col∧(⟨(i:Int),(a:Int),false⟩:ai).Col < (W:Int):=by simp only; omega
 obtain ⟨z,hz1,hz2⟩:=bs hr
 change ((rp1 ⟨q.L,c,q.Auto⟩).bind fun z_28=>(rp2 d W z_28).bind _)=_
 rw [hz1];simp only [bsm];rw [hz2];simp only [bsm];rw [CN _ _ (by omega)];simp only [bsm];have hlt:i < L2.length:=by omega
 have hcells:(L2.getD i dl).Cells.length=W:=by
  rw [gdl hlt];exact (hok _ (aG hlt)).2
 rw [sQ hlt (by omega) (by omega) (by omega) (by omega)];simp only [bsm];rw [wM _ hdd w1 w2 hc2];simp only [bsm,BB,hsl]
theorem CS (h:Pv C s k g W q ks) {d:Nat} (hdd:d=1∨d=2) (hdw:d≤W):∃L2 i a pd,rdy q W ks.length d=some (L2,((i:Nat):Int),((a:Nat):Int),pd,q.Auto)∧i < ks.length∧a+d≤W∧L2.length=ks.length∧(∀x∈L2,Okl W x):=by
 have h1:=h.set (hc q.At W ks.length) q.Auto;have hd:=sX q.At h.g.w1 h.g.h1;obtain ⟨s2,q2,ks2,z,_,a2,a3,v2,n2,hr,hcl,au⟩:=AF h1 hd hdd hdw;obtain ⟨i,hi⟩:∃i:Nat,q2.At.Row=(i:Int):=⟨q2.At.Row.toNat,by omega⟩;obtain ⟨a,ha⟩:∃a:Nat,q2.At.Col=(a:Int):=⟨q2.At.Col.toNat,by omega⟩;refine ⟨q2.L,i,a,q2.At.Pending,?_,by omega,by omega,by rw [v2.len,n2],v2.ok⟩;unfold rdy;rw [a2];simp only [bsm];rw [a3];simp only [fld,hi,ha,au]
theorem Ei (h:Pv C s k g W q ks):∃L1 i c,rp1 ⟨q.L,hc q.At W ks.length,q.Auto⟩=some (L1,((i:Nat):Int),((c:Nat):Int),false,q.Auto)∧i < ks.length∧c+1≤W∧L1.length=ks.length∧(∀x∈L1,Okl W x):=by
 have h1:=h.set (hc q.At W ks.length) q.Auto;have hd:=sX q.At h.g.w1 h.g.h1;obtain ⟨s2,q2,ks2,a1,a2,v2,n2,hd2,au,pe⟩:=Fg h1 hd;have hr:=hd2.rr;have hcc:=hd2.cc;obtain ⟨i,hi⟩:∃i:Nat,q2.At.Row=(i:Int):=⟨q2.At.Row.toNat,by omega⟩;obtain ⟨a,ha⟩:∃a:Nat,q2.At.Col=(a:Int):=⟨q2.At.Col.toNat,by omega⟩;refine ⟨q2.L,i,a,?_,by omega,by omega,by rw [v2.len,n2],v2.ok⟩;rw [a2];simp only [fld,hi,ha,au,pe]
theorem AE (W:Int) (z:(List ak)×Int×Int×Bool×Bool):rp2 1 W z=some z:=by
 unfold rp2;simp only [aZ,bsm];rw [af (by simp)]
theorem BC (h:Pv C s k g W q ks) {p1 p2:Int} {t1 t2:List Int} (ht1:t1.length≤1000000) (ht2:t2.length≤1000000) (hc1:(cl2 p1 t1 W).1=1) {q':aa} {at_:ai} (hp:aW q p1 t1=some (q',at_))
  {s' C':Sto} {ks':List Nat} (h':Pv C' s' k g W q' ks') (hk:ks'.length=ks.length):aW ⟨q'.L,at_,q'.Auto⟩ p2 t2=aW q p2 t2:=by
 obtain ⟨L1,i,c,e1,hi,hcw,hL1,hok1⟩:=Ei h;have w1:=h.g.w1;have w2:=h.g.w2;have hh2:=h.g.h2;have r1:rdy q W ks.length 1=some (L1,(i:Int),(c:Int),false,q.Auto):=by
  unfold rdy;rw [e1];exact AE (W:Int) _
 have hq:=ka (.inl rfl) h r1 hi hcw hL1 hok1 p1 t1 ht1 hc1;rw [hp] at hq;simp only [aR,gS] at hq;obtain ⟨rfl,rfl⟩:=hq;simp only [BB];have hlt:i < L1.length:=by omega
 generalize hX:(⟨pl (L1.getD i dl).Cells c (dZ (1:Nat) (fx (cl2 p1 t1 W).2)),pw (L1.getD i dl).Cells (L1.getD i dl).Wrap c 1⟩:ak)=X;have hst:=nL 1 (.inl rfl) (fx (cl2 p1 t1 W).2);have hcells:(L1.getD i dl).Cells.length=W:=by
  rw [gdl hlt];exact (hok1 _ (aG hlt)).2
 have hXc:X.Cells.length=W:=by rw [←hX]; simp only [jC]; exact hcells
 have h2:=h'.set ⟨(i:Int),(c:Int),false⟩ q.Auto;simp only [BB] at h2;rw [hX] at h2;have hcid:hc ⟨(i:Int),(c:Int),false⟩ W ks.length=⟨(i:Int),(c:Int),false⟩:=Hi ⟨by simp only; omega,by simp only; omega,fun e=>by cases e⟩;have e2:rp1 ⟨L1.set i X,hc ⟨(i:Int),(c:Int),false⟩ W ks'.length,q.Auto⟩=some (L1.set i X,(i:Int),(c:Int),false,q.Auto):=by
  rw [hk,hcid];unfold rp1;simp only [aj,aU]
 have hg:(L1.set i X).getD i dl=X:=by
  rw [aq,bq hlt];rfl
 have hokX:∀x∈L1.set i X,Okl W x:=h2.ok;obtain ⟨hdd,hdw⟩:=Du p2 t2 w1;have over:∀(a d:Nat),d=1∨d=2→a≤c→c+1≤a+d→a+d≤W→∀p:List ab,p.length=d→(L1.set i X).set i ⟨pl ((L1.set i X).getD i dl).Cells a p,pw ((L1.set i X).getD i dl).Cells ((L1.set i X).getD i dl).Wrap a d⟩=L1.set i ⟨pl (L1.getD i dl).Cells a p,pw (L1.getD i dl).Cells (L1.getD i dl).Wrap a d⟩:=by
  intro a d _ g1 g2 g3 p hpl;rw [hg,List.set_set]
  congr 1
  rw [←hX];simp only;have o1:=xr (l:=(L1.getD i dl).Cells) (p:=dZ (1:Nat) (fx (cl2 p1 t1 W).2)) (p':=p) g1 (by omega) (by omega);have o2:=AG (l:=(L1.getD i dl).Cells) (w:=(L1.getD i dl).Wrap) (p:=dZ (1:Nat) (fx (cl2 p1 t1 W).2)) (p':=p) g1 (by omega) (by omega);rw [hst,hpl] at o2;rw [o1,o2]
 have fin:∀(a d:Nat) (pd pd':Bool),d=1∨d=2→(cl2 p2 t2 W).1=d→a≤c→c+1≤a+d→a+d≤W→rdy q W ks.length d=some (L1,(i:Int),(a:Int),pd,q.Auto)→rdy ⟨L1.set i X,⟨(i:Int),(c:Int),false⟩,q.Auto⟩ W ks'.length d=some (L1.set i X,(i:Int),(a:Int),pd',q.Auto)→
   aW ⟨L1.set i X,⟨(i:Int),(c:Int),false⟩,q.Auto⟩ p2 t2=aW q p2 t2:=by
  intro a d pd pd' g0 g1 g2 g3 g4 b1 b2;rw [ka g0 h b1 hi g4 hL1 hok1 p2 t2 ht2 g1,ka g0 h2 b2 (by omega) g4 (by rw [cq]; omega) hokX p2 t2 ht2 g1];have:=over a d g0 g2 g3 g4 (dZ d (fx (cl2 p2 t2 W).2)) (nL d g0 _);unfold BB;rw [this]
 have f1:∀(L:List ak) (d:Nat),d=2→c+1 < W→rp2 d W (L,(i:Int),(c:Int),false,q.Auto)=some (L,(i:Int),(c:Int),false,q.Auto):=by
  intro L d hd hcn;unfold rp2;simp only [aZ,bsm];rw [aF (by omega),af (by simp only [aw,aV]; omega)]
 rcases hdd with hd1 | hd2
 ·refine fin c 1 false false (.inl rfl) hd1 (az _) (az _) hcw r1 ?_;unfold rdy;rw [e2];exact AE (W:Int) _
 ·by_cases hcn:c+1 < W
  ·refine fin c 2 false false (.inr rfl) hd2 (az _) (by omega) (by omega) ?_ ?_
   ·unfold rdy;rw [e1];exact f1 _ 2 rfl hcn
   ·unfold rdy;rw [e2];exact f1 _ 2 rfl hcn
  ·have hcW:(c:Int)=(W:Int) - 1:=by omega
   have ew1:w64 ((W:Int) - 1)=((W - 1:Nat):Int):=by rw [aF (by omega)]; omega
   have ew2:w64 ((W:Int) - 2)=((W - 2:Nat):Int):=by rw [aF (by omega)]; omega
   cases hau:q.Auto with
   | true=>
    have hpa:∀L:List ak,L.length=ks.length→(L.getD i dl).Cells.length=W→rp2 (2:Nat) W (L,(i:Int),(c:Int),false,true)=
      (cr ⟨L.set i ⟨pl (L.getD i dl).Cells (W - 1) [bl],pw (L.getD i dl).Cells (L.getD i dl).Wrap (W - 1) 1⟩,⟨(i:Int),(c:Int),false⟩,true⟩).bind fun x_60=>(some (x_60.L,x_60.At.Row,x_60.At.Col,x_60.At.Pending,x_60.Auto):Option ((List ak)×Int×Int×Bool×Bool)):=by
     intro L hL hLw;unfold rp2;simp only [aZ,bsm];rw [ae (by simp only [aw,aV]; rw [ew1]; omega)];simp only [bm];rw [nV _ (by decide)];simp only [bsm];rw [show (List.replicate (1:Int).toNat (⟨0,[]⟩:ab))= [bl] from rfl,ew1,sQ (by omega) (by omega) (by omega) (by decide) (by omega)];simp only [bsm];rfl
    obtain ⟨L2,i2,a2,pd2,g1,g2,g3,g4,g5⟩:=CS h (.inr rfl) (by omega:2≤W);have hsame:rdy ⟨L1.set i X,⟨(i:Int),(c:Int),false⟩,true⟩ W ks'.length 2=rdy q W ks.length 2:=by
     rw [hau] at e1 e2;unfold rdy;rw [hau,e1,e2];simp only [bsm];rw [hpa _ (by rw [cq]; omega) (by rw [hg]; exact hXc),hpa _ hL1 hcells];rw [over (W - 1) 1 (.inl rfl) (by omega) (by omega) (by omega) [bl] rfl]
    rw [hau] at h2;rw [ka (.inr rfl) h g1 g2 g3 g4 g5 p2 t2 ht2 hd2,ka (.inr rfl) h2 (hsame.trans g1) (by omega) g3 (by omega) g5 p2 t2 ht2 hd2]
   | false=>
    have hna:∀L:List ak,rp2 (2:Nat) W (L,(i:Int),(c:Int),false,q.Auto)=some (L,(i:Int),((W - 2:Nat):Int),false,q.Auto):=by
     intro L;unfold rp2;simp only [aZ,bsm];rw [ae (by simp only [aw,aV]; rw [ew1]; omega)];simp only [hau,aj,aU];rw [ew2]
    have key:=fin (W - 2) 2 false false (.inr rfl) hd2 (by omega) (by omega) (by omega) (by unfold rdy; rw [e1]; exact hna _) (by unfold rdy; rw [e2]; exact hna _);rw [hau] at key;exact key
end Go.Proofs.YthokmpbbkpjhbaaGreatDoor
namespace Go.Proofs.YthokmpbbkpjhbaaGreatDoor
open Go Go.Lt
variable {s:Sto} {k g W:Nat} {l p p':List ab} {w:Bool} {q:aa} {ks:List Nat}
theorem EN {x:Int} (h:vld x=true):fM x=x:=by unfold fM; rw [ae h]
theorem zY (x:Int):fM (fM x)=fM x:=EN (yd x)
theorem Di {t:List Int} (ht:t.length≤15) (x:Int):fx (t++ [fM x])=fx (t++ [x]):=by
 unfold fx;rw [aC (by simp; omega),aC (by simp; omega),bG,bG];simp [zY]
theorem Cp {d:Nat} (hd:d=1∨d=2) {t:List Int} (ht:t≠ []):dZ (d:Int) t=if d=2 then [⟨2,t⟩,⟨3,[]⟩] else [⟨1,t⟩]:=by
 unfold dZ;rw [af ht];rcases hd with rfl | rfl <;> rfl
theorem BK {l0:List ab} {a d:Nat} {t:List Int} (hdd:d=1∨d=2) (h:s.row_Row[k]? = some ⟨pl l0 a (dZ d t),w⟩) (hs:Snd (pl l0 a (dZ d t))) (hl:l0.length≤1024) (ha:a+d≤l0.length) (ht1:1≤t.length) (ht2:t.length≤15) (x:Int):
  nq s (some k) a x=some (s.sr k ⟨pl l0 a (dZ d (fx (t++ [x]))),pw (pl l0 a (dZ d t)) w a d⟩,true):=by
 have hne:t≠ []:=fun e=>by rw [e] at ht1; simp at ht1
 have hsl:=nL d hdd t;have hc:pc l0 a (dZ d t) a=⟨(d:Int),t⟩:=by
  rw [CV ⟨az _,by rw [hsl]; omega⟩,mb,Cp hdd hne];rcases hdd with rfl | rfl <;> rfl
 have hkd:kd (pl l0 a (dZ d t)) a=(d:Int):=by rw [C7 (by omega),hc]
 have hm:mat (pl l0 a (dZ d t)) (a:Int)=some a:=by
  unfold mat;rw [ae (by rw [jC]; omega),bU,hkd,af (by omega),af (by omega)]
 unfold nq;rw [EA h hs a (by omega),hm];have hg:(pl l0 a (dZ d t)).getD a bl=⟨(d:Int),t⟩:=by rw [aq,tP (by omega),hc]; rfl
 simp only [bsm,cP,fh,hg,hkd];rw [af (by simp; omega),cK (by simp; omega)];simp only [bsm];have hsl2:=nL d hdd (fx (t++ [x]));rw [C3 h hs (by rw [jC]; exact hl) _ (by simp; omega) (by rw [hsl2,jC]; exact ha),xr (az a) (by omega) (by omega),hsl2];simp only [bsm,Er.isNil]
def zb (b:Int):Bool:=b==1 || b==2 || b==3 || b==4 || b==5 || b==10 || b==11
def b2 (x:ax):Bool:= !zb x.Break && (x.East==1 || x.East==2)
theorem Ak (b:Int):lP b=some (zb b):=by
 unfold lP zb;by_cases h1:b=1
 ·subst h1; rfl
 by_cases h2:b=2
 ·subst h2; rfl
 by_cases h3:b=3
 ·subst h3; rfl
 by_cases h4:b=4
 ·subst h4; rfl
 by_cases h5:b=5
 ·subst h5; rfl
 by_cases h6:b=10
 ·subst h6; rfl
 by_cases h7:b=11
 ·subst h7; rfl
 simp [h1,h2,h3,h4,h5,h6,h7]
theorem DI (x:ax):∃n,nu x=some n∧(n==2)=b2 x:=by
 unfold nu b2;rw [Ak];simp only [bsm,br]
 cases zb x.Break with
 | true=>exact ⟨0,rfl,rfl⟩
 | false=>
  cases h:(x.East==1 || x.East==2) with
  | true=>exact ⟨2,by simp [h],rfl⟩
  | false=>exact ⟨1,by simp [h],rfl⟩
def gz (y:bz) (r:Int) (x:ax):bz:=⟨true,x.Pict,y.wide || (b2 x || (y.some && ((r==65039 && y.pict) || x.Pict || x.Break==6)))⟩
def wz (y:bz):Int:=if y.wide=true then 2 else 1
theorem zX (y:bz) (r:Int) (x:ax):cv y r x=some (gz y r x,wz (gz y r x)):=by
 have hw:co y r x=some (b2 x || (y.some && ((r==65039 && y.pict) || x.Pict || x.Break==6))):=by
  unfold co;obtain ⟨n,h1,h2⟩:=DI x;rw [h1];simp only [bsm,h2,aZ,br]
  cases b2 x <;> cases y.some <;> rfl
 unfold cv;rw [hw];simp only [bsm,br,aj,aU];unfold wz gz;split <;> simp_all
structure Cv (c:bH) (t:List Int):Prop where
 n:c.n=(t.length:Int)
 h:t.length≤16
 t:(a16 c.text).take t.length=t
theorem xE {c:bH} {t:List Int} (h:Cv c t):bR c=some (decide (t.length=16)):=by
 unfold bR cV;simp only [aj,aU,bsm,h.n]
 congr 1
 rw [ci,aV,an];omega
theorem Gn {c:bH} {t:List Int} (h:Cv c t) (h2:t.length < 16) (x:Int):∃c',cu c x=some (c',true)∧Cv c' (t++ [x]):=by
 unfold cu;rw [xE h];simp only [fh,bsm];rw [af (by simp; omega),h.n,bc (by rw [nR]; exact h2)];simp only [bsm];refine ⟨_,rfl,by simp only; rw [aF (by omega)]; simp,by simp; omega,?_⟩;simp only;rw [zt,bU,aA];simp only [aJ,aQ];rw [av (by rw [cq,nR]; exact h2),List.take_set_of_le (az _),h.t,List.getElem_set_self]
theorem A1 {c:bH} {t:List Int} (h:Cv c t):bC c=some t:=by
 unfold bC;simp only [aj,aU,h.n];have:=nU (xs:=a16 c.text) (i:=0) (j:=t.length) (cG _) (by rw [nR]; exact h.h);rw [show ((0:Nat):Int)=0 by rfl] at this;rw [this];simp only [bsm,jy,nH,h.t];unfold fX;rw [cK (by have:=h.h; simp; omega)];rfl
end Go.Proofs.YthokmpbbkpjhbaaGreatDoor
namespace Go.Proofs.YthokmpbbkpjhbaaGreatDoor
open Go Go.Lt
variable {s C:Sto} {k g W j:Nat} {w:Bool} {q:aa} {ks:List Nat}
def Sto.sc (s:Sto) (j:Nat) (x:bb):Sto:={ s with widen_Cluster:=s.widen_Cluster.set j x}
theorem tG {x:bb} (h:j < s.widen_Cluster.length):s.set_widen_Cluster j x=some (s.sc j x):=by
 unfold Sto.set_widen_Cluster;rw [ae h];rfl
theorem qt {x:bb} (h:j < s.widen_Cluster.length):(s.sc j x).widen_Cluster[j]? = some x:=by simp [Sto.sc,h]
theorem wJ (s:Sto) (j:Nat) (x y:bb):(s.sc j x).sc j y=s.sc j y:=by simp [Sto.sc]
theorem Gw.sc (h:Gw s g ks W) (j:Nat) (x:bb):Gw (s.sc j x) g ks W:=⟨h.g,h.r,h.h1,h.h2,h.w1,h.w2⟩
theorem Gw.addc (h:Gw s g ks W) (x:bb):Gw (s.add_widen_Cluster x) g ks W:=⟨h.g,h.r,h.h1,h.h2,h.w1,h.w2⟩
theorem Pv.sc (h:Pv s s k g W q ks) (j:Nat) (x:bb):Pv (s.sc j x) (s.sc j x) k g W q ks:=
 ⟨h.p,h.g.sc j x,h.nd,h.l,rfl,h.f.rgp ⟨rfl,rfl,rfl⟩ ⟨rfl,rfl,rfl⟩⟩
theorem Pv.addc (h:Pv s s k g W q ks) (x:bb):Pv (s.add_widen_Cluster x) (s.add_widen_Cluster x) k g W q ks:=
 ⟨h.p,h.g.addc x,h.nd,h.l,rfl,h.f.rgp ⟨rfl,rfl,rfl⟩ ⟨rfl,rfl,rfl⟩⟩
theorem tR {a b:Sto} (h:a.oth=b.oth):a.widen_Cluster=b.widen_Cluster:=by
 have:=ii Sto.widen_Cluster h;exact this
structure Wc (s:Sto) (j:Nat) (c:ai) (y:bz) (t:List Int) (n:Int):Prop where
 x:∃b,s.widen_Cluster[j]? = some ⟨c,n,b,y⟩∧Cv b t
theorem Wc.lt {c:ai} {y:bz} {t:List Int} {n:Int} (h:Wc s j c y t n):j < s.widen_Cluster.length:=by
 obtain ⟨b,h,_⟩:=h.x;exact cz h
theorem D9 (r:Int):((eZ r).bind fun x_6=>if (!x_6)=true then (some (65533):Option (Int)) else (some (r):Option (Int)))=some (fM r):=by
 rw [tH];unfold fM
 cases vld r <;> rfl
theorem DP {c:ai} {y:bz} {t:List Int} {n:Int} (h:Wc s j c y t n) (ht:t.length < 16) (r:Int) (x:ax):
  ∃b',fi s (some j) r x=some (s.sc j ⟨c,n,b',gz y (fM r) x⟩,wz (gz y (fM r) x))∧Cv b' (t++ [fM r]):=by
 have hj:=h.lt;obtain ⟨b,hb,hv⟩:=h.x;obtain ⟨b',h1,h2⟩:=Gn hv ht (fM r);refine ⟨b',?_,h2⟩;unfold fi;rw [D9];simp only [bsm,hb,h1];rw [tG hj];simp only [bsm,zX];rw [tG (by simp [Sto.sc]; exact hj),wJ];rfl
theorem EY (t:List Int) (h:2≤W):cl2 2 t W=(2,t):=by
 unfold cl2;rw [af (by omega)];rfl
theorem A2 (t:List Int) (h:1≤W):cl2 1 t W=(1,t):=by
 unfold cl2;rw [af (by omega)];rfl
theorem A3 (t:List Int):cl2 2 t 1=(1,[65533]):=by
 unfold cl2;rw [ae (by decide)]
structure On (C s:Sto) (k g W H j:Nat) (q0:aa) (y:bz) (t:List Int) (q:aa) (c:ai) (ks:List Nat):Prop where
 v:Pv s s k g W q ks
 f:Fr C s k g ks
 w:Wc s j c y t (wz y)
 n:ks.length=H
 p:aW q0 (wz y) t=some (q,c)
theorem DH {q0:aa} (h:Pv C s k g W q0 ks) (r:Int) (x:ax):∃s' q' c ks',kP s (some k) r x=some (s',some s.widen_Cluster.length)∧
  On C s' k g W ks.length s.widen_Cluster.length q0 (gz ⟨false,false,false⟩ (fM r) x) [fM r] q' c ks'∧∃z,s'.oth=(s.add_widen_Cluster z).oth:=by
 unfold kP;simp only [bL,fh,bsm,h.p,aj,aU];have h0:Wc (s.add_widen_Cluster ⟨⟨0,0,false⟩,0,⟨(0,0,0,0,0,0,0,0,0,0,0,0,0,0,0,0),0⟩,⟨false,false,false⟩⟩) s.widen_Cluster.length ⟨0,0,false⟩ ⟨false,false,false⟩ [] 0:=
  ⟨⟨⟨(0,0,0,0,0,0,0,0,0,0,0,0,0,0,0,0),0⟩,by simp [Sto.add_widen_Cluster],⟨rfl,by simp,rfl⟩⟩⟩
 obtain ⟨b,h1,h2⟩:=DP h0 (by simp) r x;have hlt:=h0.lt;rw [h1];have hv:=(h.self.addc ⟨⟨0,0,false⟩,0,⟨(0,0,0,0,0,0,0,0,0,0,0,0,0,0,0,0),0⟩,⟨false,false,false⟩⟩).sc s.widen_Cluster.length ⟨⟨0,0,false⟩,0,b,gz ⟨false,false,false⟩ (fM r) x⟩;have hR:Rgp s (s.add_widen_Cluster ⟨⟨0,0,false⟩,0,⟨(0,0,0,0,0,0,0,0,0,0,0,0,0,0,0,0),0⟩,⟨false,false,false⟩⟩):=⟨rfl,rfl,rfl⟩;have hA:∀z,((s.add_widen_Cluster ⟨⟨0,0,false⟩,0,⟨(0,0,0,0,0,0,0,0,0,0,0,0,0,0,0,0),0⟩,⟨false,false,false⟩⟩).sc s.widen_Cluster.length z)=s.add_widen_Cluster z:=fun z=>by
  simp [Sto.sc,Sto.add_widen_Cluster]
 generalize hs1:s.add_widen_Cluster ⟨⟨0,0,false⟩,0,⟨(0,0,0,0,0,0,0,0,0,0,0,0,0,0,0,0),0⟩,⟨false,false,false⟩⟩=s1 at *;simp only [bsm];rw [qt hlt];simp only [bsm];rw [tG (by simp [Sto.sc]; exact hlt),wJ];simp only [bsm];rw [A1 h2];simp only [bsm,ba];have hv2:=hv.sc s.widen_Cluster.length ⟨⟨0,0,false⟩,wz (gz ⟨false,false,false⟩ (fM r) x),b,gz ⟨false,false,false⟩ (fM r) x⟩;simp only [wJ] at hv2;obtain ⟨s3,q3,ks3,i,a,p1,p2,p3,p4,p5,p6,p7,_⟩:=zP hv2 (wz (gz ⟨false,false,false⟩ (fM r) x)) [fM r] (by simp);rw [p2];have hcl:s3.widen_Cluster=(s1.sc s.widen_Cluster.length ⟨⟨0,0,false⟩,wz (gz ⟨false,false,false⟩ (fM r) x),b,gz ⟨false,false,false⟩ (fM r) x⟩).widen_Cluster:=tR p4.o;have hg3:s3.widen_Cluster[s.widen_Cluster.length]? = some ⟨⟨0,0,false⟩,wz (gz ⟨false,false,false⟩ (fM r) x),b,gz ⟨false,false,false⟩ (fM r) x⟩:=by
  rw [hcl];exact qt hlt
 simp only [bsm];rw [hg3];simp only [bsm];rw [tG (cz hg3)];refine ⟨_,q3,_,ks3,rfl,⟨p4.self.sc _ _,?_,⟨_,qt (cz hg3),by simpa using h2⟩,p5,p3⟩,⟨⟨(i:Int),(a:Int),false⟩,wz (gz ⟨false,false,false⟩ (fM r) x),b,gz ⟨false,false,false⟩ (fM r) x⟩,?_⟩
 ·exact (h.f.trans h.oG h.oR (p4.f.rgp (C':=s) ⟨hR.symm.r,hR.symm.g,hR.symm.p⟩ (Rgp.self _))).rgp (Rgp.self _) ⟨rfl,rfl,rfl⟩
 ·rw [←hA];have:=ii (fun y:Sto=>y.sc s.widen_Cluster.length ⟨⟨(i:Int),(a:Int),false⟩,wz (gz ⟨false,false,false⟩ (fM r) x),b,gz ⟨false,false,false⟩ (fM r) x⟩) p4.o;refine this.trans ?_;show (((s1.sc _ _).sc _ _).oth)=_;rw [wJ]
theorem yb (y:bz):(y.wide=false∧wz y=1)∨(y.wide=true∧wz y=2):=by
 unfold wz;cases y.wide
 ·exact .inl ⟨rfl,rfl⟩
 ·exact .inr ⟨rfl,rfl⟩
theorem AP {y:bz} (h:y.wide=true) (r:Int) (x:ax):(gz y r x).wide=true:=by
 unfold gz;simp [h]
theorem EZ (p1:Int) (t t':List Int) (W:Nat):(cl2 p1 t W).1=(cl2 p1 t' W).1:=by
 unfold cl2;split <;> rfl
theorem BN {q0:aa} {y:bz} {t:List Int} {c:ai} {H:Nat} (h:On C s k g W H j q0 y t q c ks) (ht:t.length=16) (r:Int) (x:ax):
  dC s (some j) (some k) r x=some (s,false):=by
 obtain ⟨b,hb,hv⟩:=h.w.x;unfold dC;simp only [bL,fh,bsm,h.v.p,hb,xE hv,ht];rfl
theorem ED {C0 s0:Sto} {ks0:List Nat} {q0:aa} {H:Nat} (h0:Pv C0 s0 k g W q0 ks0) (hH:ks0.length=H) {y:bz} {t:List Int} {c:ai} (h:On C s k g W H j q0 y t q c ks) (ht1:1≤t.length) (ht:t.length < 16) (hvt:∀x∈t,vld x=true) (r:Int) (x:ax):
  ∃s' q' c' ks',dC s (some j) (some k) r x=some (s',true)∧On C s' k g W H j q0 (gz y (fM r) x) (t++ [fM r]) q' c' ks'∧∃z,s'.oth=(s.sc j z).oth:=by
 have hj:=h.w.lt;obtain ⟨b',e1,e2⟩:=DP h.w ht r x;obtain ⟨b,hb,hv⟩:=h.w.x;have w1:=h0.g.w1;have w2:=h0.g.w2;unfold dC;have hfull:decide (t.length=16)=false:=by simp; omega
 simp only [bL,fh,bsm,h.v.p,hb,xE hv,hfull,aj,aU,e1];have htl:(t++ [fM r]).length≤1000000:=by simp; omega
 generalize hy':gz y (fM r) x=y' at *;rw [qt hj];simp only [bsm];rw [tG (by simp [Sto.sc]; exact hj),wJ];simp only [bsm];have hv2:=h.v.sc j ⟨c,wz y',b',y'⟩;have hfr:Fr C (s.sc j ⟨c,wz y',b',y'⟩) k g ks:=h.f.rgp (Rgp.self _) ⟨rfl,rfl,rfl⟩;by_cases hw:wz y'=wz y
 ·rw [af (by simp [hw])];simp only [hv2.p,bsm];rw [jm hv2.g];simp only [bsm];obtain ⟨hdd,hdw⟩:=Du (wz y) t w1;obtain ⟨L2,i,a,pd,r1,r2,r3,r4,r5⟩:=CS h0 hdd hdw;have hq:=ka hdd h0 r1 r2 r3 r4 r5 (wz y) t (by omega) rfl;have hq':=ka hdd h0 r1 r2 r3 r4 r5 (wz y) (t++ [fM r]) htl (EZ _ _ _ _);rw [h.p] at hq;simp only [aR,gS] at hq;obtain ⟨hq1,rfl⟩:=hq;by_cases hle:wz y'≤(W:Int)
  ·rw [ae (by simpa using hle)];have hcl:∀t2:List Int,cl2 (wz y) t2 W=((wz y).toNat,t2):=fun t2=>by
    rw [hw] at hle;rcases yb y with ⟨_,q1⟩ | ⟨_,q1⟩
    ·rw [q1]; exact A2 t2 w1
    ·rw [q1]; exact EY t2 (by omega)
   rw [hcl] at hq1 r3 hdd hdw r1 hq';rw [hcl] at hq';simp only at hq1 r3 hdd hdw r1 hq';generalize (wz y).toNat=d at *;have hik:i < ks.length:=by rw [h.n,←hH]; exact r2
   rw [eY hv2.g hik];simp only [bsm];have hfx:fx t=t:=Ho hvt (by omega);obtain ⟨⟨rc,rw_⟩,hr0,hsn,hlw⟩:=h.v.g.at hik;simp only at hsn hlw;have hlt:i < L2.length:=by rw [r4]; exact r2
   have hat:=h.v.at hik;rw [nk hr0] at hat;have hqL:q.L=L2.set i ⟨pl (L2.getD i dl).Cells a (dZ d (fx t)),pw (L2.getD i dl).Cells (L2.getD i dl).Wrap a d⟩:=by rw [hq1]; rfl
   have hgi:q.L[i]'(by rw [h.v.len]; exact hik)=⟨pl (L2.getD i dl).Cells a (dZ d (fx t)),pw (L2.getD i dl).Cells (L2.getD i dl).Wrap a d⟩:=by
    have:q.L[i]? = some ⟨pl (L2.getD i dl).Cells a (dZ d (fx t)),pw (L2.getD i dl).Cells (L2.getD i dl).Wrap a d⟩:=by rw [hqL,bq hlt]
    rw [ag (by rw [h.v.len]; exact hik)] at this;exact be this
   rw [hgi] at hat;simp only [ak.mk.injEq] at hat;obtain ⟨hrc,hrw⟩:=hat;subst hrc hrw;have hcells:(L2.getD i dl).Cells.length=W:=by
    rw [gdl hlt];exact (r5 _ (aG hlt)).2
   have hq1A:q.At=ca ⟨(i:Int),(a:Int),false⟩ d W q0.Auto∧q.Auto=q0.Auto:=by rw [hq1]; exact ⟨rfl,rfl⟩
   generalize hl0:(L2.getD i dl).Cells=l0 at *;generalize hw0:(L2.getD i dl).Wrap=w0 at *;rw [hfx] at hr0 hsn hqL hlw hgi;have hr0':(s.sc j ⟨⟨(i:Int),(a:Int),false⟩,wz y',b',y'⟩).row_Row[ks[i]]? = some ⟨pl l0 a (dZ d t),pw l0 w0 a d⟩:=hr0;have hst:=nL d hdd t;have hst2:=nL d hdd (fx (t++ [r]));rw [BK hdd hr0' hsn (by omega) (by omega) ht1 (by omega) r];simp only [bsm];have o1:=xr (l:=l0) (p:=dZ d t) (p':=dZ d (fx (t++ [r]))) (az a) (by omega) (by omega);have o2:=AG (l:=l0) (w:=w0) (p:=dZ d t) (p':=dZ d (fx (t++ [r]))) (az a) (by omega) (by omega);rw [hst,hst2] at o2;have hsn2:Snd (pl l0 a (dZ d (fx (t++ [r])))):=by
    rw [←o1];exact hsn.paint (zB _ _) (by rw [jC]; omega)
   have hv4:=hv2.row hik (r:=⟨pl l0 a (dZ d (fx (t++ [r]))),pw (pl l0 a (dZ d t)) (pw l0 w0 a d) a d⟩) hsn2 (by simp only [jC]; exact hcells);refine ⟨_,_,_,ks,rfl,⟨hv4.self,hfr.sr (aG hik) _,⟨b',qt hj,e2⟩,h.n,?_⟩,_,rfl⟩;rw [hw,hq'];have hfx2:=Di (t:=t) (by omega) r;rw [o2,hqL,hq1A.1,hq1A.2,List.set_set,←hfx2];unfold BB;rw [hl0,hw0]
  ·rw [af (by simpa using hle)];have hW:W=1:=by
    rcases yb y' with ⟨_,q1⟩ | ⟨_,q1⟩ <;> omega
   refine ⟨_,q,_,ks,rfl,⟨hv2,hfr,⟨b',qt hj,e2⟩,h.n,?_⟩,_,rfl⟩;rw [hw,hq'];have h2:wz y=2:=by
    rcases yb y with ⟨_,q1⟩ | ⟨_,q1⟩
    ·rw [hw,q1] at hle; omega
    ·exact q1
   rw [hq1,h2,hW,A3,A3]
 ·rw [ae (by simpa using hw)];have hy1:wz y=1∧wz y'=2:=by
   rcases yb y with ⟨_,q1⟩ | ⟨q1,q2⟩
   ·rcases yb y' with ⟨_,q3⟩ | ⟨_,q3⟩
    ·rw [q1,q3] at hw; exact absurd rfl hw
    ·exact ⟨q1,q3⟩
   ·have:=AP q1 (fM r) x;rw [hy'] at this;unfold wz at hw;rw [this,q1] at hw;exact absurd rfl hw
  simp only [hv2.p,bsm];rw [iR (cz hv2.p)];simp only [bsm];have hv3:=hv2.set c q.Auto;have hc3:((s.sc j ⟨c,wz y',b',y'⟩).sp k ⟨some g,c,q.Auto⟩).widen_Cluster[j]? = some ⟨c,wz y',b',y'⟩:=qt hj;rw [hc3];simp only [bsm];rw [A1 e2];simp only [bsm];obtain ⟨s4,q4,ks4,i,a,p1,p2,p3,p4,p5,p6,p7,_⟩:=zP hv3 (wz y') (t++ [fM r]) htl;rw [p2];simp only [bsm];have hc4:s4.widen_Cluster[j]? = some ⟨c,wz y',b',y'⟩:=by
   rw [tR p4.o];exact hc3
  rw [hc4];simp only [bsm];rw [tG (cz hc4)];refine ⟨_,q4,_,ks4,rfl,⟨p4.self.sc _ _,?_,⟨b',qt (cz hc4),e2⟩,p5.trans h.n,?_⟩,⟨⟨(i:Int),(a:Int),false⟩,wz y',b',y'⟩,?_⟩
  ·have h3:=p4.f;have:=h.f.trans h.v.oG h.v.oR (h3.rgp (C':=s) ⟨rfl,rfl,rfl⟩ (Rgp.self _));exact this.rgp (Rgp.self _) ⟨rfl,rfl,rfl⟩
  ·rw [←p3];exact (BC h0 (by omega) htl (by rw [hy1.1,A2 _ w1]) h.p h.v (h.n.trans hH.symm)).symm
  ·have:=ii (fun y:Sto=>y.sc j ⟨⟨(i:Int),(a:Int),false⟩,wz y',b',y'⟩) p4.o;refine this.trans ?_;show (((s.sc _ _).sc _ _).oth)=_;rw [wJ]
def gf (t:List Int) (x:List ax):bz:=(t.zip x).foldl (fun y p=>gz y p.1 p.2) ⟨false,false,false⟩
theorem ya {α β:Type}:∀(t:List α) (x:List β) (r:α) (h:t.length < x.length),(t++ [r]).zip x=t.zip x++ [(r,x[t.length])]
 | [],[],_,h=>by simp at h
 | [],b :: x,r,_=>by simp
 | a :: t,[],_,h=>by simp at h
 | a :: t,b :: x,r,h=>by
  have:=ya t x r (by simpa using h);simp only [cm,xV,this,aJ,GG]
theorem uP {t:List Int} {x:List ax} (h:t.length < x.length) (r:Int):gf (t++ [r]) x=gz (gf t x) r x[t.length]:=by
 unfold gf;rw [ya t x r h,lC];rfl
theorem xZ {α β:Type}:∀(t:List α) (x:List β) (n:Nat),t.length≤n→t.zip (x.take n)=t.zip x
 | [],_,_,_=>rfl
 | _ :: _,[],_,_=>by simp
 | _ :: _,_ :: _,0,h=>by simp at h
 | a :: t,b :: x,n+1,h=>by
  rw [mw,xV,xV,xZ t x n (by simpa using h)]
theorem EL (t:List Int) (x:List ax) {n:Nat} (h:t.length≤n):gf t (x.take n)=gf t x:=by
 unfold gf;rw [xZ _ _ _ h]
theorem zM (b:Int) (zs:List Int) (hz:zs.length≤1000):∃t,cE (σ:=Int) (τ:=Int ⊕ Unit) (((zs.length:Int) - 0).toNat+1) (fun s_9=>
 if (decide (s_9 < (zs.length:Int)))=true then
 (idx zs s_9).bind fun x_19=>
 if (b==x_19)=true then
 some (.inr (.inl 0))
 else
 some (.inl ((w64 (s_9+1))))
 else
 some (.inr (.inr ()))) (0)=some t∧(match t with | .inl n=>n=0∧b∈zs | .inr _=>b∉zs):=by
 refine dV (n:=zs.length) (fun i s=>s=(i:Int)∧∀k (h:k < zs.length),k < i→zs[k]≠b) (fun t:Int ⊕ Unit=>match t with | .inl n=>n=0∧b∈zs | .inr _=>b∉zs) (fun i s hi he=>?_) (fun s he=>?_) ⟨rfl,fun k h hk=>by omega⟩ (by omega)
 ·obtain ⟨e,hI⟩:=he;subst e;rw [ae (dlt hi),bc hi,er hi (by omega)];simp only [bsm];by_cases hx:b=zs[i]
  ·rw [ae (by simpa using hx)];exact .inr ⟨_,rfl,rfl,hx▸ aG hi⟩
  ·rw [af (by simpa using hx)];refine .inl ⟨_,rfl,rfl,fun k h hk=>?_⟩;by_cases hki:k=i
   ·subst hki; exact fun e=>hx e.symm
   ·exact hI k h (by omega)
 ·obtain ⟨e,hI⟩:=he;subst e;refine ⟨.inr (),by rw [af (by simp)],fun hb=>?_⟩;obtain ⟨i,hi,e⟩:=List.mem_iff_getElem.1 hb;exact hI i hi hi e
theorem CQ (x:ax):∃n,gZ x=some n∧(n==2)=b2 x:=by
 unfold gZ;obtain ⟨t,h1,h2⟩:=zM x.Break [1,2,3,4,5,10,11] (by decide);rw [h1];have hz:zb x.Break=true↔x.Break∈([1,2,3,4,5,10,11]:List Int):=by simp [zb]; omega
 unfold b2
 cases t with
 | inl n=>
  obtain ⟨rfl,hm⟩:=h2;exact ⟨0,rfl,by rw [hz.2 hm]; rfl⟩
 | inr u=>
  have hf:zb x.Break=false:=by rw [←tD,hz]; exact h2
  simp only [br,bsm,hf]
  cases h:(x.East==1 || x.East==2) with
  | true=>exact ⟨2,by simp,rfl⟩
  | false=>exact ⟨1,by simp,rfl⟩
theorem GW (t:List Int) (x:List ax) (h:t.length≤x.length) (ht:t.length≤1000000):gF t x=some (wz (gf t x)):=by
 unfold gF;have key:∀i,i≤t.length→(gf (t.take i) x).some=decide (0 < i)∧(∀(h1:0 < i) (h2:i - 1 < x.length),(gf (t.take i) x).pict=x[i - 1].Pict):=fun i hi=>by
  cases i with
  | zero=>exact ⟨rfl,fun h=>absurd h (by decide)⟩
  | succ i=>
   have hl:(t.take i).length=i:=by rw [ay]; omega
   rw [av (by omega),uP (by rw [hl]; omega)];exact ⟨by simp [gz],fun _ _=>by simp [gz,hl]⟩
 have mono:∀i,i≤t.length→(gf (t.take i) x).wide=true→(gf t x).wide=true:=fun i hi hw=>by
  have:∀m,i≤m→m≤t.length→(gf (t.take m) x).wide=true:=by
   intro m
   induction m with
   | zero=>intro h1 _; rw [show i=0 by omega] at hw; exact hw
   | succ m ih=>
    intro h1 h2;by_cases e:i=m+1
    ·rw [←e]; exact hw
    ·rw [av (by omega),uP (by rw [ay]; omega)];exact AP (ih (by omega) (by omega)) _ _
  have:=this t.length hi (az _)
  rwa [aC (az _)] at this
 refine lv (n:=t.length) (fun i s=>s=(i:Int)∧(gf (t.take i) x).wide=false) (fun u=>match u with | .inl n=>n=2∧(gf t x).wide=true | .inr _=>(gf t x).wide=false) (fun i s hi ⟨e,hI⟩=>?_) (fun s ⟨e,hI⟩=>?_) ⟨rfl,rfl⟩ (by omega) (fun u hu=>?_)
 ·subst e;have e5:=er hi (by omega);have hx:i < x.length:=by omega
  obtain ⟨n,h1,h2⟩:=CQ x[i];rw [ae (dlt hi),bc hx];simp only [bsm,h1,h2,e5,bc hi];have hl:(t.take i).length=i:=by rw [ay]; omega
  have hs:(gf (t.take (i+1)) x).wide=(b2 x[i] || (decide (0 < i) && ((t[i]==65039 && (gf (t.take i) x).pict) || x[i].Pict || x[i].Break==6))):=by
   rw [av hi,uP (by rw [hl]; omega)];simp only [gz,hI,ji,(key i (by omega)).1,hl]
  have hd:∀(A:Option Bool),(∀(h0:0 < i),A=some ((t[i]==65039 && x[i - 1].Pict) || x[i].Pict || x[i].Break==6))→
    (orE (b2 x[i]) ((bI (decide ((i:Int) > 0)) A).bind fun d_21=>some d_21))=some (gf (t.take (i+1)) x).wide:=fun A hA=>by
   rw [hs];by_cases h0:0 < i
   ·rw [hA h0,show decide ((i:Int) > 0)=true by simp; omega,gq,show decide (0 < i)=true by simpa using h0,(key i (by omega)).2 h0 (by omega)];simp only [bsm,br,du]
   ·rw [show decide ((i:Int) > 0)=false by simp; omega,gt,show decide (0 < i)=false by simpa using h0];simp only [bsm,br,lY]
  rw [hd _ (fun h0=>by
   rw [show w64 ((i:Int) - 1)=((i - 1:Nat):Int) by rw [aF (by omega)]; omega,bc (show i - 1 < x.length by omega)];simp only [bsm,aZ,br])]
  simp only [bsm]
  cases hw:(gf (t.take (i+1)) x).wide with
  | true=>exact .inr ⟨.inl 2,rfl,rfl,mono (i+1) (by omega) hw⟩
  | false=>exact .inl ⟨_,rfl,rfl,rfl⟩
 ·subst e;rw [aC (az _)] at hI;exact ⟨.inr (),by rw [af (by simp)],hI⟩
 ·unfold wz
  cases u with
  | inl n=>
   obtain ⟨rfl,hw⟩:=hu;rw [hw];rfl
  | inr u=>
   simp only at hu;rw [hu];rfl
end Go.Proofs.YthokmpbbkpjhbaaGreatDoor
namespace Go.Proofs.YthokmpbbkpjhbaaGreatDoor
open Go Go.Lt
variable {s C:Sto} {g k W:Nat} {ks:List Nat} {q:aa}
def bls (W H:Nat):List ak:=List.replicate H ⟨List.replicate W bl,false⟩
theorem DE {W H:Nat} (w1:1≤W) (w2:W≤1024) (h1:1≤H):∀i (h:i < (bls W H).length),1≤(bls W H)[i].Cells.length∧(bls W H)[i].Cells.length≤1024∧Snd (bls W H)[i].Cells∧(bls W H)[i].Cells.length=((bls W H)[0]'(by omega)).Cells.length:=fun i h=>by
 have e:∀j (hj:j < (bls W H).length),(bls W H)[j]=⟨List.replicate W bl,false⟩:=fun j hj=>by
  unfold bls;exact jg _
 rw [e i h,e 0 (by omega)];simp only [lm];exact ⟨w1,w2,tE W,trivial⟩
theorem yQ (n m:Int):mt s n m=some ((s.addr ((bls (sd n) (sd m)).map lr)).add_grid_Grid ⟨(List.range' s.row_Row.length (sd m)).map some⟩,some s.grid_Grid.length):=by
 have hsd:=sL m;have hL:∀i,((bls (sd n) (sd m)).map lr).take i=List.replicate (min i (sd m)) ⟨List.replicate (sd n) bl,false⟩:=fun i=>by
  unfold bls;rw [List.map_replicate,List.take_replicate];rfl
 have hlen:((bls (sd n) (sd m)).map lr).length=sd m:=by simp [bls]
 have hH:aE 1 (aB m 1024)=(sd m:Int):=by
  rw [dq,eX];unfold sd;omega
 unfold mt;rw [hH];simp only [bsm];obtain ⟨t,h3,h4⟩:=dV (σ:=Int×Sto) (τ:=Sto) (n:=sd m) (fuel:=(((sd m:Nat):Int) - 0).toNat+1) (s:=(0,s.add_grid_Grid (⟨([]:List (Option Nat))⟩:bF)))
  (fun i q=>q=((i:Int),(s.addr (((bls (sd n) (sd m)).map lr).take i)).add_grid_Grid ⟨(List.range' s.row_Row.length i).map some⟩))
  (fun t=>t=(s.addr ((bls (sd n) (sd m)).map lr)).add_grid_Grid ⟨(List.range' s.row_Row.length (sd m)).map some⟩)
  (step:=fun s_12=>
 if (decide (s_12.1 < ((sd m:Nat):Int)))=true then
 (s_12.2.grid_Grid[s.grid_Grid.length]?).bind fun o_19=>
 (kC s_12.2 n).bind fun x_21=>
 (app o_19.rows ([x_21.2]:List (Option Nat))).bind fun x_23=>
 (x_21.1.set_grid_Grid s.grid_Grid.length (⟨x_23⟩:bF)).bind fun s_26001=>
 some (.inl ((w64 (s_12.1+1)),s_26001))
 else
 some (.inr (s_12.2)))
  (fun i q hi e=>by
   subst e;refine .inl ⟨_,?_,rfl⟩;have e5:w64 ((i:Int)+1)=((i+1:Nat):Int):=by rw [aF (by omega)]; simp
   have hd:decide ((i:Int) < ((sd m:Nat):Int))=true:=by simp; exact hi
   have hg:((s.addr (((bls (sd n) (sd m)).map lr).take i)).add_grid_Grid ⟨(List.range' s.row_Row.length i).map some⟩).grid_Grid[s.grid_Grid.length]? = some ⟨(List.range' s.row_Row.length i).map some⟩:=by
    simp [Sto.add_grid_Grid,Sto.addr]
   simp only [hd,bm];rw [hg,xo];simp only [bsm];rw [cK (by simp; omega)];simp only [bsm];have hlt:s.grid_Grid.length < (((s.addr (((bls (sd n) (sd m)).map lr).take i)).add_grid_Grid ⟨(List.range' s.row_Row.length i).map some⟩).add_row_Row ⟨List.replicate (sd n) bl,false⟩).grid_Grid.length:=by
    simp [Sto.add_grid_Grid,Sto.addr,Sto.add_row_Row]
   rw [uY hlt,e5];simp only [bsm]
   congr 4
   refine Cq ?_ ?_ rfl
   ·simp only [Sto.sg,Sto.add_grid_Grid,Sto.add_row_Row,Sto.addr];rw [hL,hL,cp (by omega),cp (by omega),vY,aK]
   ·simp only [Sto.sg,Sto.add_grid_Grid,Sto.add_row_Row,Sto.addr];rw [ll _ _ (az _),mb,mW,xW,bG,hL,cp (by omega)];simp)
  (fun q e=>⟨q.2,by subst e; simp,by subst e; simp only; rw [aC (by omega)]⟩)
  (by simp [vX]) (by omega)
 subst h4;rw [h3];rfl
theorem Fr.of_grid (xs:List bf) (x:bF) {n:Nat} (hn:n=s.grid_Grid.length) {m:Nat}:Fr s ((s.addr xs).add_grid_Grid x) k n (List.range' s.row_Row.length m):=by
 subst hn;refine Fr.new (az _) ?_ ?_ (fun _ _=>rfl) (fun j hj=>?_) (fun j hj=>?_) (az _) (fun r hr=>(List.mem_range'_1.1 hr).1)
 ·simp [Sto.add_grid_Grid,Sto.addr]
 ·simp [Sto.add_grid_Grid,Sto.addr]
 ·simp only [Sto.add_grid_Grid,Sto.addr]; exact aI hj
 ·simp only [Sto.add_grid_Grid,Sto.addr]; exact aI hj
theorem Gw.addp (h:Gw s g ks W) (x:bi):Gw (s.add_place_Pen x) g ks W:=⟨h.g,h.r,h.h1,h.h2,h.w1,h.w2⟩
theorem BE (n m:Int):∃s' ks,mF s n m=some (s',some s.place_Pen.length)∧Pv s s' s.place_Pen.length s.grid_Grid.length (sd n) ⟨bls (sd n) (sd m),⟨0,0,false⟩,true⟩ ks:=by
 have h1:=sL n;have h2:=sL m;have hb:(bls (sd n) (sd m)).length=sd m:=by simp [bls]
 have h0:((bls (sd n) (sd m))[0]'(by omega)).Cells.length=sd n:=by simp [bls]
 obtain ⟨g1,g2⟩:=Fl (s:=s) (L:=bls (sd n) (sd m)) (by omega) (by omega) (DE h1.1 h1.2 h2.1);rw [h0] at g1;rw [hb] at g1 g2;unfold mF;rw [yQ];refine ⟨_,_,rfl,⟨?_,g1.addp _,?_,?_,rfl,(Fr.of_grid _ _ rfl).addp _⟩⟩
 ·simp [Sto.add_place_Pen,Sto.add_grid_Grid,Sto.addr]
 ·exact Io
 ·exact g2
theorem Bx {W H:Nat} (w2:W≤1024) (h2:H≤1024):gA W H=some (bls W H):=by
 unfold gA;obtain ⟨t,h3,h4⟩:=dV (σ:=(List ak)×Int) (τ:=(List ak)) (n:=H) (fuel:=((H:Int) - 0).toNat+1) (s:=(([]:List ak),0))
  (fun i q=>q=(bls W i,(i:Int))) (fun t=>t=bls W H)
  (step:=fun s_7=>
 if (decide (s_7.2 < (H:Int)))=true then
 (rep (W:Int) (⟨0,([]:List Int)⟩:ab)).bind fun x_14=>
 (app s_7.1 ([(⟨x_14,false⟩:ak)]:List ak)).bind fun x_17=>
 some (.inl (x_17,(w64 (s_7.2+1))))
 else
 some (.inr (s_7.1)))
  (fun i q hi e=>by
   subst e;refine .inl ⟨_,?_,rfl⟩;have e5:w64 ((i:Int)+1)=((i+1:Nat):Int):=by rw [aF (by omega)]; simp
   have hd:decide ((i:Int) < (H:Int))=true:=by simp; exact hi
   simp only [hd,bm,e5];rw [nV _ (by omega)];simp only [bsm];rw [cK (by simp [bls]; omega)];simp only [bsm];unfold bls;rw [vY];rfl)
  (fun q e=>⟨_,by subst e; simp,rfl⟩)
  rfl (by omega)
 subst h4;rw [h3];rfl
def sil (r:Int):Bool:=(decide (0≤r) && decide (r < 32)) || (decide (127≤r) && decide (r≤159))
theorem Cs (r:Int):jv r=some (sil r):=by
 simp only [jv,aZ,br,bsm,sil,zW]
theorem mo (r:Int):dj r=some (sil r):=by
 simp only [dj,aZ,br,bsm,sil,zW,aR];rw [ci];simp;omega
theorem wL (r:Int) (h:r≠13∧r≠10∧r≠8):cw q r=some (q,sil r):=by
 unfold cw;rw [af (by simpa using h.1)];simp only [bsm];rw [af (by simpa using h.2.1)];simp only [bsm];rw [af (by simpa using h.2.2)];simp only [bsm];rw [mo];rfl
theorem EW (h:Pv C s k g W q ks) (r:Int):∃s' q' ks',oJ s (some k) r=some (s',sil r)∧cw q r=some (q',sil r)∧Pv C s' k g W q' ks'∧ks'.length=ks.length∧(Hd q.At W ks.length→Hd q'.At W ks.length):=by
 have w1:=h.g.w1;have w2:=h.g.w2;unfold oJ;rw [Cs];simp only [bsm,bL,fh,h.p];by_cases hs:sil r=true
 ·rw [hs];simp only [cP,aj,aU];rw [jm h.g,eL h.g];simp only [bsm];rw [oN _ h.g.w1 h.g.w2 h.g.h1 h.g.h2];have hd:=sX q.At h.g.w1 h.g.h1;have hh:=oy h;by_cases h13:r=13
  ·subst h13;simp only [bsm,tw,bm,dp];rw [iR (cz h.p)];refine ⟨_,_,ks,rfl,?_,h.set ⟨(hc q.At W ks.length).Row,0,false⟩ q.Auto,rfl,fun _=>⟨hd.rr,by simp only; omega,fun e=>by cases e⟩⟩;unfold cw;rw [hh,mo,hs];rfl
  by_cases h10:r=10
  ·subst h10;obtain ⟨s',q',ks',a1,a2,v,hn,hnd,_⟩:=vo h;simp only [bsm];rw [af (by decide),ae (by decide),a1];refine ⟨s',q',ks',rfl,?_,v,hn,fun _=>hnd⟩;unfold cw;rw [af (by decide)];simp only [bsm];rw [ae (by decide),show (⟨q.L,⟨q.At.Row,q.At.Col,q.At.Pending⟩,q.Auto⟩:aa)=q from rfl,a2];simp only [bsm];rw [af (by decide),mo,hs];rfl
  by_cases h8:r=8
  ·subst h8;have hcc:=hd.cc;have hb:kT (hc q.At W ks.length)=some ⟨(hc q.At W ks.length).Row,max 0 ((hc q.At W ks.length).Col - 1),false⟩:=by
    unfold kT;by_cases h0:(hc q.At W ks.length).Col > 0
    ·rw [ae (by simpa using h0),aF (by omega)];simp only [bsm,aR,ai.mk.injEq,uU,vW];omega
    ·rw [af (by simpa using h0)];simp only [bsm,aR,ai.mk.injEq,uU,vW];omega
   simp only [bsm];rw [af (by decide),af (by decide),ae (by decide),hb];simp only [bsm];rw [iR (cz h.p)];refine ⟨_,_,ks,rfl,?_,h.set ⟨(hc q.At W ks.length).Row,max 0 ((hc q.At W ks.length).Col - 1),false⟩ q.Auto,rfl,fun _=>⟨hd.rr,by simp only; omega,fun e=>by cases e⟩⟩;unfold cw;rw [af (by decide)];simp only [bsm];rw [af (by decide)];simp only [bsm];rw [ae (by decide),show (⟨q.L,⟨q.At.Row,q.At.Col,q.At.Pending⟩,q.Auto⟩:aa)=q from rfl,hh];simp only [bsm];rw [mo,hs,aF (by omega),eX];rfl
  ·simp only [bsm];rw [af (by simpa using h13),af (by simpa using h10),af (by simpa using h8)];exact ⟨s,q,ks,rfl,by rw [wL r ⟨h13,h10,h8⟩,hs],h,rfl,id⟩
 ·have hf:sil r=false:=by simpa using hs
  rw [hf];simp only [eB,bm];have hn:r≠13∧r≠10∧r≠8:=by
   refine ⟨?_,?_,?_⟩ <;> (rintro rfl; revert hf; decide)
  exact ⟨s,q,ks,rfl,by rw [wL r hn,hf],h,rfl,id⟩
end Go.Proofs.YthokmpbbkpjhbaaGreatDoor
namespace Go.Proofs.YthokmpbbkpjhbaaGreatDoor
open Go Go.Lt
def pj (a b:Int):Int:=(fR a b).getD 0
def clz (a:Int):Int:=if a < 0∨13 < a then 0 else a
def pjT (i j:Nat):Bool:=match fR i j,cU i j with
  | some x,some y=>x==y && (x != 2 || ((i==6)==(j==6))) && (x==0 || !(i==1 || i==2 || i==3 || j==1 || j==2 || j==3) || (i==1 && j==2))
  | _,_=>false
theorem FP:((List.range 14).all fun i=>(List.range 14).all fun j=>pjT i j)=true:=by kernel_rfl
theorem AZ (a:Int):∃i:Nat,clz a=(i:Int)∧i < 14∧(0 < i→a=(i:Int)):=by
  unfold clz;split
  · exact ⟨0,rfl,by omega,fun h=>by omega⟩
  · exact ⟨a.toNat,by omega,by omega,fun _=>by omega⟩
theorem mD (a:Int):jc a=some (clz a):=by
  unfold jc clz;simp only [br,bsm];by_cases h:a < 0∨13 < a
  · rw [ae (by simp only [aD,an]; omega),ae h]
  · rw [af (by simp only [aD,an]; omega),af h]
theorem uQ (a:Int):clz (clz a)=clz a:=by
  unfold clz
  repeat' split
  all_goals omega
theorem BI (a b:Int):fR a b=fR (clz a) (clz b):=by
  unfold fR;rw [mD,mD,mD,mD,uQ,uQ]
theorem Bz (a b:Int):cU a b=cU (clz a) (clz b):=by
  have h:∀(a:Int),((orE (decide (a < 0)) (some (decide (a > 13)))).bind fun d_6=>if d_6=true then (some (0):Option (Int)) else (some (a):Option (Int)))=some (clz a):=fun a=>by
    have:=mD a;unfold jc at this;exact this
  unfold cU;rw [h,h,h,h,uQ,uQ]
theorem vk (a b:Int):∃x,fR a b=some x∧cU a b=some x∧pj a b=x∧(x=2→(a=6↔b=6))∧(x≠0→(a=1∨a=2∨a=3∨b=1∨b=2∨b=3)→a=1∧b=2):=by
  obtain ⟨i,hi,i14,i0⟩:=AZ a;obtain ⟨j,hj,j14,j0⟩:=AZ b;have h:=List.all_eq_true.1 (List.all_eq_true.1 FP i (List.mem_range.2 i14)) j (List.mem_range.2 j14);have ia:∀n:Nat,0 < n→n < 14→(a=(n:Int)↔i=n):=fun n h0 h1=>by
    constructor
    · intro e
      unfold clz at hi;split at hi <;> omega
    · intro e; subst e; exact i0 h0
  have jb:∀n:Nat,0 < n→n < 14→(b=(n:Int)↔j=n):=fun n h0 h1=>by
    constructor
    · intro e
      unfold clz at hj;split at hj <;> omega
    · intro e; subst e; exact j0 h0
  have a1:=ia 1 (by omega) (by omega);have a2:=ia 2 (by omega) (by omega);have a3:=ia 3 (by omega) (by omega);have a6:=ia 6 (by omega) (by omega);have b1:=jb 1 (by omega) (by omega);have b2:=jb 2 (by omega) (by omega);have b3:=jb 3 (by omega) (by omega);have b6:=jb 6 (by omega) (by omega);unfold pj;rw [BI,Bz,hi,hj];unfold pjT at h;split at h
  · rename_i x y e1 e2
    simp only [aw,aD,aV,mV,wQ,dv,wb,eU] at h;obtain ⟨⟨hxy,h2⟩,h3⟩:=h;subst hxy;refine ⟨x,e1,e2,by rw [e1]; rfl,fun hx=>?_,fun hx hc=>?_⟩
    · rcases h2 with q | q
      · exact absurd hx q
      · have q1:(i==6)=(j==6):=q
        rw [ci,aV,aV] at q1;omega
    · rcases h3 with (q | q) | q
      · exact absurd q hx
      · exfalso
        omega
      · omega
  · cases h
theorem Ek (a b:Int):fR a b=some (pj a b):=by
  obtain ⟨x,h1,_,h3,_⟩:=vk a b;rw [h1,h3]
theorem FO (a b:Int):cU a b=some (pj a b):=by
  obtain ⟨x,_,h2,h3,_⟩:=vk a b;rw [h2,h3]
theorem FN (a b:Int) (h:pj a b=2):a=6↔b=6:=by
  obtain ⟨x,_,_,h3,h4,_⟩:=vk a b;exact h4 (by omega)
def sgB (s:Sg):cD:=⟨s.some,s.last,s.pict,s.conj,s.odd⟩
theorem CA (s:Sg) (p:ax):cZ (sgB s) p=some (sgB (sgN s p),sgJ pj s p):=by
  have hj:cS (sgB s) p=some (sgJ pj s p):=by
    unfold cS sgB sgJ;simp only [aZ,bsm,Ek]
    cases s.some with
    | false=>rfl
    | true=>
      simp only [cP,aj,aU,du]
      cases h1:(p.Conj==1 && s.conj==2) with
      | true=>rfl
      | false=>
        simp only [aj,aU,bsm,ji]
        cases h2:(p.Pict && s.pict==2) with
        | true=>rfl
        | false=>
          simp only [aj,aU,ji];by_cases h3:pj s.last p.Break=1
          · rw [ae (by simpa using h3),h3]
            rfl
          · rw [af (by simpa using h3),show (pj s.last p.Break==1)=false by simpa using h3,ji]
            by_cases h4:pj s.last p.Break=2
            · rw [ae (by simpa using h4),h4]
              rfl
            · rw [af (by simpa using h4),show (pj s.last p.Break==2)=false by simpa using h4]
              rfl
  have hp:cI (sgB s) p=some (nxP s.pict p):=by
    unfold cI sgB nxP;simp only [aZ,bsm];by_cases h1:p.Pict=true
    · rw [ae h1,ae h1]
    · rw [af h1,af h1]
      by_cases h2:s.pict=1∧p.Break=4
      · rw [ae (by simpa using h2),ae h2]
      · rw [af (by simpa using h2),af h2]
        by_cases h3:s.pict=1∧p.Break=5
        · rw [ae (by simpa using h3),ae h3]
        · rw [af (by simpa using h3),af h3]
  have hc:cB (sgB s) p=some (nxC s.conj p):=by
    unfold cB sgB nxC;simp only [aV]
    repeat' split
    all_goals rfl
  unfold cZ;simp only [aj,aU];rw [hj,hp,hc];simp only [bsm,aZ];rfl
theorem wG (d:cD):dy d=some (sgB sg0):=rfl
theorem qr {α:Type} {l:List α} {k:Nat} (h:k < l.length):(l.take (k+1)).reverse=l[k] :: (l.take k).reverse:=by
  rw [av h,List.reverse_append];rfl
theorem E0 (x:ax) (l:List ax) (n:Nat):cj (x :: l) n=if x.Conj=1 then decide (0 < n) else if x.Conj=2 then cj l (n+1) else if x.Conj=3 then cj l n else false:=rfl
theorem Ej (x:ax) (l:List ax):pk (x :: l)=if x.Pict=true then true else if x.Break=4 then pk l else false:=rfl
theorem Ee (x:ax) (l:List ax):ri (x :: l)=if x.Break=6 then ri l+1 else 0:=rfl
theorem zO {P:List ax} (hP:P.length≤1000000) {i:Nat} (hi:i < P.length):ew P i=some (P[i].Conj==1 && cj (P.take i).reverse 0):=by
  unfold ew;rw [bc hi];simp only [bsm];by_cases h1:P[i].Conj=1
  · rw [af (by simpa using h1),show (P[i].Conj==1)=true by simpa using h1,du]
    have e1:w64 ((i:Int) - 1)=(i:Int) - 1:=aF (by omega);rw [e1];refine wV (fun s=>∃k n:Nat,s=((n:Int),(k:Int) - 1)∧k≤i∧n+k≤i∧cj (P.take k).reverse n=cj (P.take i).reverse 0) (fun s=>(s.2+1).toNat) (fun u=>(match u with | .inl b=>b | .inr _=>false)=cj (P.take i).reverse 0) (fun s hs=>?_) ⟨i,0,rfl,az _,by omega,rfl⟩ (by simp only; omega) (fun u hu=>?_)
    · obtain ⟨k,n,rfl,hk,hn,hI⟩:=hs
      simp only
      cases k with
      | zero=>
        rw [af (by simp)];exact .inr ⟨_,rfl,by rw [←hI]; rfl⟩
      | succ k=>
        have e2:((k+1:Nat):Int) - 1=(k:Int):=by omega
        have hkl:k < P.length:=by omega
        rw [qr hkl] at hI;rw [E0] at hI;rw [e2,ae (by simp),bc hkl];simp only [bsm];by_cases c1:P[k].Conj=1
        · rw [ae (by simpa using c1)]
          rw [ae c1] at hI;exact .inr ⟨_,rfl,by rw [←hI]; simp⟩
        · rw [af (by simpa using c1)]
          rw [af c1] at hI;have e3:w64 ((k:Int) - 1)=(k:Int) - 1:=aF (by omega);have e4:w64 ((n:Int)+1)=((n+1:Nat):Int):=by rw [aF (by omega)]; simp
          simp only [aZ,bsm,e3,e4];by_cases c2:P[k].Conj=2
          · rw [ae (by simpa using c2)]
            simp only [bsm];rw [af (by simp [c2])];rw [ae c2] at hI;exact .inl ⟨_,rfl,⟨k,n+1,rfl,by omega,by omega,hI⟩,by simp only; omega⟩
          · rw [af (by simpa using c2)]
            rw [af c2] at hI;simp only [bsm];by_cases c3:P[k].Conj=3
            · rw [af (by simp [c3])]
              rw [ae c3] at hI;exact .inl ⟨_,rfl,⟨k,n,rfl,by omega,by omega,hI⟩,by simp only; omega⟩
            · rw [ae (by simp [c2,c3])]
              rw [af c3] at hI;exact .inr ⟨_,rfl,by rw [←hI]⟩
    · cases u with
      | inl b=>simp only at hu⊢; rw [hu]
      | inr u=>simp only at hu⊢; rw [hu]
  · rw [ae (by simpa using h1),show (P[i].Conj==1)=false by simpa using h1]
    rfl
theorem zN {P:List ax} (hP:P.length≤1000000) {i:Nat} (hi:i < P.length) (h0:1≤i):eQ P i=some (P[i].Pict && (!(P[i - 1]'(by omega)).Pict && (P[i - 1]'(by omega)).Break==5 && pk (P.take (i - 1)).reverse)):=by
  have e1:w64 ((i:Int) - 1)=((i - 1:Nat):Int):=by rw [aF (by omega)]; omega
  unfold eQ;rw [bc hi,e1,bc (show i - 1 < P.length by omega)];simp only [bsm,br];by_cases hc:P[i].Pict=true∧2≤i∧(P[i - 1]'(by omega)).Break=5∧(P[i - 1]'(by omega)).Pict=false
  · obtain ⟨c1,c2,c3,c4⟩:=hc
    rw [af (by rw [c1,c3,c4]; simp; omega),c1,c3,c4];simp only [eB,tw,du];have e2:w64 ((i:Int) - 2)=((i - 1:Nat):Int) - 1:=by rw [aF (by omega)]; omega
    rw [e2];refine wV (fun s=>∃k:Nat,s=(k:Int) - 1∧k≤i - 1∧pk (P.take k).reverse=pk (P.take (i - 1)).reverse) (fun s=>(s+1).toNat) (fun u=>(match u with | .inl b=>b | .inr _=>false)=pk (P.take (i - 1)).reverse) (fun s hs=>?_) ⟨i - 1,rfl,az _,rfl⟩ (by omega) (fun u hu=>?_)
    · obtain ⟨k,rfl,hk,hI⟩:=hs
      cases k with
      | zero=>
        rw [af (by simp)];exact .inr ⟨_,rfl,by rw [←hI]; rfl⟩
      | succ k=>
        have e2:((k+1:Nat):Int) - 1=(k:Int):=by omega
        have hkl:k < P.length:=by omega
        rw [qr hkl] at hI;rw [Ej] at hI;rw [e2,ae (by simp),bc hkl];simp only [bsm];by_cases d1:P[k].Pict=true
        · rw [ae d1]
          rw [ae d1] at hI;exact .inr ⟨_,rfl,by rw [←hI]⟩
        · rw [af d1]
          rw [af d1] at hI;by_cases d2:P[k].Break=4
          · rw [af (by simpa using d2),aF (by omega)]
            rw [ae d2] at hI;exact .inl ⟨_,rfl,⟨k,rfl,by omega,hI⟩,by omega⟩
          · rw [ae (by simpa using d2)]
            rw [af d2] at hI;exact .inr ⟨_,rfl,by rw [←hI]⟩
    · cases u with
      | inl b=>simp only at hu⊢; rw [hu]
      | inr u=>simp only at hu⊢; rw [hu]
  · rw [ae ?_]
    · congr 1
      rw [eq_comm,zw];intro hh;simp only [aw,dv,aV] at hh;obtain ⟨g1,⟨g2,g3⟩,g4⟩:=hh;by_cases h2:2≤i
      · exact hc ⟨g1,h2,g3,g2⟩
      · rw [show i - 1=0 by omega] at g4
        simp [pk] at g4
    · simp only [aD,dv,an,mV,wQ]
      by_cases g1:P[i].Pict=true
      · by_cases g2:2≤i
        · by_cases g3:(P[i - 1]'(by omega)).Break=5
          · right
            cases g4:(P[i - 1]'(by omega)).Pict with
            | true=>rfl
            | false=>exact absurd ⟨g1,g2,g3,g4⟩ hc
          · exact .inl (.inr g3)
        · exact .inl (.inl (.inr (by omega)))
      · exact .inl (.inl (.inl (by simpa using g1)))
theorem CR {P:List ax} (hP:P.length≤1000000) {i:Nat} (hi:i < P.length):(cE (σ:=Int×Int) (τ:=Int) (((w64 ((i:Int) - 1)) - 0).toNat+2) (fun s_62=>
 (bI (decide (s_62.2≥0)) ((idx P s_62.2).bind fun x_69=>
 some (x_69.Break==6))).bind fun d_65=>
 if d_65=true then
 some (.inl ((w64 (s_62.1+1)),(w64 (s_62.2 - 1))))
 else
 some (.inr (s_62.1))) (0,(w64 ((i:Int) - 1))))=some (ri (P.take i).reverse:Int):=by
  have e1:w64 ((i:Int) - 1)=(i:Int) - 1:=aF (by omega);rw [e1];obtain ⟨t,h1,h2⟩:=lG (σ:=Int×Int) (τ:=Int) (step:=fun s_62=>
 (bI (decide (s_62.2≥0)) ((idx P s_62.2).bind fun x_69=>
 some (x_69.Break==6))).bind fun d_65=>
 if d_65=true then
 some (.inl ((w64 (s_62.1+1)),(w64 (s_62.2 - 1))))
 else
 some (.inr (s_62.1))) (fun s=>∃k n:Nat,s=((n:Int),(k:Int) - 1)∧k≤i∧n+k≤i∧n+ri (P.take k).reverse=ri (P.take i).reverse) (fun s=>(s.2+1).toNat) (fun t=>t=(ri (P.take i).reverse:Int)) (fun s hs=>by
      obtain ⟨k,n,rfl,hk,hn,hI⟩:=hs;simp only
      cases k with
      | zero=>
        rw [show decide (((0:Nat):Int) - 1≥0)=false by simp,gt];exact .inr ⟨_,rfl,by rw [←hI]; simp [ri]⟩
      | succ k=>
        have e2:((k+1:Nat):Int) - 1=(k:Int):=by omega
        have hkl:k < P.length:=by omega
        rw [qr hkl] at hI;rw [Ee] at hI;rw [e2,show decide ((k:Int)≥0)=true by simp,gq,bc hkl];simp only [bsm];by_cases c1:P[k].Break=6
        · rw [ae (by simpa using c1),aF (by omega),aF (by omega)]
          rw [ae c1] at hI;exact .inl ⟨_,rfl,⟨k,n+1,by simp,by omega,by omega,by omega⟩,by simp only; omega⟩
        · rw [af (by simpa using c1)]
          rw [af c1] at hI;exact .inr ⟨_,rfl,by rw [←hI]; simp⟩) ((((i:Int) - 1) - 0).toNat+2) (0,(i:Int) - 1) ⟨i,0,rfl,az _,by omega,by omega⟩ (by simp only; omega)
  rw [h1,h2]
theorem yx {P:List ax} (hP:P.length≤1000000) {i:Nat} (hi:i < P.length):eo P i=some (rj pj (P.take i).reverse P[i]):=by
  unfold eo;simp only [br,bsm];by_cases h0:i=0
  · subst h0
    rw [ae (by simp)];rfl
  · obtain ⟨j,rfl⟩:∃j,i=j+1:=⟨i - 1,by omega⟩
    rw [af (by simp; omega)];have e1:w64 (((j+1:Nat):Int) - 1)=(j:Int):=by rw [aF (by omega)]; omega
    have hj:j < P.length:=by omega
    have hp:=zN hP hi (by omega);simp only [xU] at hp;have hr:=CR hP hi;rw [e1] at hr⊢;rw [bc hj,bc hi];simp only [bsm,FO,zO hP hi,hp];simp only [br,bsm];rw [qr hj];unfold rj;simp only;rw [qr hj] at hr;generalize hA:(pj P[j].Break P[j+1].Break==1 || (P[j+1].Conj==1 && cj (P[j] :: (P.take j).reverse) 0) || (P[j+1].Pict && (!P[j].Pict && P[j].Break==5 && pk (P.take j).reverse)))=A
    cases A with
    | true=>simp
    | false=>
      simp only [aj,aU,ji];by_cases hc:pj P[j].Break P[j+1].Break=2∧P[j+1].Break=6
      · have b1:(pj P[j].Break P[j+1].Break==2)=true:=by rw [aV]; exact hc.1
        have b2:(P[j+1].Break==6)=true:=by rw [aV]; exact hc.2
        have b3:(pj P[j].Break P[j+1].Break != 2)=false:=by rw [bne,b1]; rfl
        have b4:(P[j+1].Break != 6)=false:=by rw [bne,b2]; rfl
        rw [af (by rw [b3,b4]; simp),hr];simp only [bsm,b1,b2,du,aR];rw [ci,aV,aV,DU (by omega)];omega
      · rw [ae (by simp only [aD,mV,wQ]; omega)]
        congr 1
        rw [eq_comm,zw];simp only [wQ,aw,aV];exact fun h=>hc ⟨h.1.1,h.1.2⟩
def R32 (l:List Int):Prop:=∀x∈l,r32 x
theorem vj (l:List Int) (h:R32 l) (hl:l.length≤1000000):(cE (σ:=(List ax)×Int) (τ:=(List ax)) (((l.length:Int) - 0).toNat+1) (fun s_7=>
 if (decide (s_7.2 < (l.length:Int)))=true then
 (idx l s_7.2).bind fun x_16=>
 (dJ x_16).bind fun x_18=>
 (app s_7.1 ([x_18]:List ax)).bind fun x_20=>
 some (.inl (x_20,(w64 (s_7.2+1))))
 else
 some (.inr (s_7.1))) (([]:List ax),0))=some (l.map pr):=by
  obtain ⟨t,h1,h2⟩:=dV (σ:=(List ax)×Int) (τ:=(List ax)) (n:=l.length) (fuel:=((l.length:Int) - 0).toNat+1) (s:=(([]:List ax),0))
    (fun i s=>s=((l.take i).map pr,(i:Int))) (fun t=>t=l.map pr) (step:=fun s_7=>
 if (decide (s_7.2 < (l.length:Int)))=true then
 (idx l s_7.2).bind fun x_16=>
 (dJ x_16).bind fun x_18=>
 (app s_7.1 ([x_18]:List ax)).bind fun x_20=>
 some (.inl (x_20,(w64 (s_7.2+1))))
 else
 some (.inr (s_7.1)))
    (fun i s hi e=>by
      subst e;simp only;rw [ae (dlt hi),bc hi,er hi (by omega)];simp only [bsm];rw [G1 _ (h _ (aG hi))];simp only [bsm];rw [cK (by simp; omega)];refine .inl ⟨_,rfl,?_⟩;rw [av hi,bG];rfl)
    (fun s e=>by subst e; exact ⟨_,by simp only; rw [af (by simp)],by rw [aC (az _)]⟩)
    rfl (by omega)
  rw [h1,h2]
theorem CU (l:List Int) (h:R32 l) (hl:l.length≤1000000):fA l=some (l.map pr):=by
  unfold fA;rw [vj l h hl];rfl
theorem C9 {l:List Int} (hl:l.length≤1000000) {i:Nat} (hi:i < l.length):eo (l.map pr) i=some (jn pj pr (l.take i) l[i]):=by
  rw [yx (by simpa using hl) (by simpa using hi)];unfold jn;rw [FF pj FN,dR,List.map_take]
theorem Bc (l:List Int) (h:R32 l) (hl:l.length≤1000000):fe l=some ((sts pj pr l).map fun n:Nat=>(n:Int)):=by
  unfold fe;rw [CU l h hl];simp only [bsm,db];have hsl:∀l:List Int,(sts pj pr l).length≤l.length:=fun l=>by
    unfold sts;exact dA (uJ _ _) (by simp)
  refine lv (n:=l.length) (fun i s=>s=((sts pj pr (l.take i)).map fun n:Nat=>(n:Int),(i:Int))) (fun u=>u=(sts pj pr l).map fun n:Nat=>(n:Int)) (fun i s hi e=>?_) (fun s e=>?_) rfl (by omega) (fun u hu=>by rw [hu])
  · subst e
    simp only;rw [ae (dlt hi),C9 hl hi,er hi (by omega)];simp only [bsm];rw [av hi,uV];have hle:=hsl (l.take i);rw [ay] at hle
    cases jn pj pr (l.take i) l[i] with
    | true=>
      simp only [cP,aj,aU,bsm,bm,eC];exact .inl ⟨_,rfl,rfl⟩
    | false=>
      simp only [eB,bm,aj,aU];rw [cK (by simp; omega)];refine .inl ⟨_,rfl,?_⟩;rw [bG,ay,cp (qm hi)];rfl
  · subst e
    exact ⟨_,by simp only; rw [af (by simp)],by rw [aC (az _)]⟩
theorem D1 (l:List Int):(sts pj pr l++ [l.length]).Pairwise (· < ·):=by
  rw [List.pairwise_append];refine ⟨?_,by simp,fun a ha b hb=>?_⟩
  · unfold sts
    exact List.Pairwise.filter _ List.pairwise_lt_range
  · rw [List.mem_singleton.1 hb]
    exact zA ha
theorem za (l:List Int) (h:R32 l) (hl:l.length≤1000000):eu l=some (cls pj pr l):=by
  have hsl:(sts pj pr l).length≤l.length:=by
    unfold sts;exact dA (uJ _ _) (by simp)
  unfold eu;rw [Bc l h hl];simp only [bsm];rw [cK (by simp; omega)];simp only [bsm];have e0:((sts pj pr l).map fun n:Nat=>(n:Int))++ [(l.length:Int)]=(sts pj pr l++ [l.length]).map fun n:Nat=>(n:Int):=by rw [bG]; rfl
  rw [e0,←Em (pj:=pj) (pr:=pr) l];have hinc:=D1 l;have hAl:(sts pj pr l++ [l.length]).length=(sts pj pr l).length+1:=by simp
  have hle:∀a∈sts pj pr l++ [l.length],a≤l.length:=fun a ha=>by
    rcases List.mem_append.1 ha with ha | ha
    · exact qm (zA ha)
    · rw [List.mem_singleton.1 ha]; exact az _
  generalize sts pj pr l++ [l.length]=A at *;simp only [db];have e1:w64 (0+1)=1:=rfl;rw [e1];refine lv (n:=A.length - 1) (fun i s=>s=((List.range i).map (fun i=>slx l (A.getD i 0) (A.getD (i+1) 0)),(i:Int))) (fun u=>u=pcs l A) (fun i s hi e=>?_) (fun s e=>?_) rfl (by omega) (fun u hu=>by rw [hu])
  · subst e
    have hi1:i+1 < A.length:=by omega
    simp only;rw [er (show i < A.length by omega) (by omega),ae (by simp; omega)];rw [bc (show i < (A.map fun n:Nat=>(n:Int)).length by simp; omega),bc (show i+1 < (A.map fun n:Nat=>(n:Int)).length by simp; omega)];simp only [bsm,dR];have hlt:=List.pairwise_iff_getElem.1 hinc i (i+1) (by omega) hi1 (by omega);have hb:=hle _ (aG hi1);rw [nU (by omega) hb];simp only [bsm];rw [cK (by simp; omega),ba];simp only [bsm];rw [cK (by simp; omega)];refine .inl ⟨_,rfl,?_⟩;rw [pD,bG];simp only [sx,GD,gS,vW]
    congr 2
    unfold slx;have g:∀j (h:j < A.length),A.getD j 0=A[j]:=fun j h=>by rw [aq,ag h]; rfl
    rw [g i (by omega),g (i+1) hi1]
  · subst e
    refine ⟨_,?_,rfl⟩;simp only;rw [aF (by omega),af (by simp; omega)];rfl
def GS (n:Nat):Bool:= !sil n || (((pr n).Break==1 || (pr n).Break==2 || (pr n).Break==3) && !(pr n).Pict && (pr n).Conj==0)
theorem D7:(List.range 160).all GS=true:=by kernel_rfl
theorem Ga:gT.all (fun x=> !(x.2.2==1 || x.2.2==2) || (decide (0≤x.1) && decide (x.2.1≤31)))=true:=by kernel_rfl
theorem FC {r:Int} (h:sil r=true):0≤r∧r < 160:=by
  unfold sil at h;simp only [aD,aw,an] at h;omega
theorem Ct:Sil pj pr sil:=by
  refine ⟨fun r hr=>?_,fun a b ha hne=>?_,fun a b hb hne=>?_,fun r hr=>?_⟩
  · obtain ⟨h1,h2⟩:=FC hr
    have:=List.all_eq_true.1 D7 r.toNat (List.mem_range.2 (by omega));unfold GS at this;rw [pJ h1,hr] at this;simp only [cP,ji,aw,aD,aV,dv] at this;obtain ⟨⟨q1,q2⟩,q3⟩:=this;exact ⟨by rcases q1 with (q | q) | q <;> simp [q],q2,q3⟩
  · obtain ⟨x,_,_,h3,_,h5⟩:=vk a b
    exact h5 (by omega) (by omega)
  · obtain ⟨x,_,_,h3,_,h5⟩:=vk a b
    exact h5 (by omega) (by omega)
  · have e:(pr r).Break=(lk gT r).getD (hcl r):=rfl
    rw [e] at hr;have hh:hcl r=9∨hcl r=10∨hcl r=11∨hcl r=0∨hcl r=12∨hcl r=13:=by
      unfold hcl
      repeat' split
      all_goals simp
    cases hx:fnd (fun x:Int×Int×Int=>x.1) (fun x=>x.2.1) gT r with
    | none=>
      unfold lk at hr;rw [hx] at hr;simp only [IA,Option.getD_none] at hr;omega
    | some x=>
      unfold lk at hr;rw [hx] at hr;simp only [fp,Option.getD_some] at hr;obtain ⟨m1,m2⟩:=xC hx;have:=List.all_eq_true.1 Ga x m1;rw [sS] at m2;simp only [aD,dv,wb,eU,aw,an] at this;unfold sil;simp only [aD,aw,an];omega
def fo {α β:Type} (f:β→α→Option β):β→List α→Option β
  | b,[]=>some b
  | b,a :: l=>(f b a).bind fun b'=>fo f b' l
theorem Dj {α β:Type} (f:β→α→Option β) (b:β) (l m:List α):fo f b (l++m)=(fo f b l).bind fun b'=>fo f b' m:=by
  induction l generalizing b with
  | nil=>rfl
  | cons a l ih=>
    show (f b a).bind (fun b'=>fo f b' (l++m))=((f b a).bind fun b'=>fo f b' l).bind fun b'=>fo f b' m;rw [Ii]
    congr 1
    funext b'
    exact ih b'
theorem pm {α β:Type} (f:β→α→Option β) (b:β) (l:List α) (a:α):fo f b (l++ [a])=(fo f b l).bind fun b'=>f b' a:=by
  rw [Dj]
  congr 1
  funext b'
  show (f b' a).bind (fun b'=>some b')=f b' a
  cases f b' a <;> rfl
theorem EM {α β:Type} {f:β→α→Option β} {b:β} {l:List α} {r:β} (h:fo f b l=some r) (i:Nat):∃q,fo f b (l.take i)=some q:=by
  rw [←gK i l,Dj] at h
  cases hq:fo f b (l.take i) with
  | none=>rw [hq] at h; cases h
  | some q=>exact ⟨q,rfl⟩
theorem AV {α β:Type} {f:β→α→Option β} {b:β} {l:List α} {r q:β} (h:fo f b l=some r) {i:Nat} (hi:i < l.length) (hq:fo f b (l.take i)=some q):∃q',f q l[i]=some q'∧fo f b (l.take (i+1))=some q':=by
  obtain ⟨q',e⟩:=EM h (i+1);refine ⟨q',?_,e⟩;rw [av hi,pm,hq] at e;exact e
def Ab (q:aa) (r:Int):Option aa:=(cw q r).map (·.1)
def w16 (c:List Int):Int:=wz (gf (c.take 16) ((c.take 16).map pr))
def rX (q:aa) (c:List Int):Option aa:=
  if sil (c.headD 0)=true then fo Ab q c else (aW q (w16 c) (c.take 16)).map (·.1)
theorem sV {q:aa} {a:Int} {t:List Int} (h:sil a=true):rX q (a :: t)=fo Ab q (a :: t):=by
  unfold rX;rw [ae (show sil ((a :: t).headD 0)=true from h)]
theorem vq {q:aa} {a:Int} {t:List Int} (h:sil a=false):rX q (a :: t)=(aW q (w16 (a :: t)) ((a :: t).take 16)).map (·.1):=by
  unfold rX;rw [af (show ¬sil ((a :: t).headD 0)=true by rw [ID,h]; simp)]
theorem yT (c:List Int) (hl:c.length≤1000000):em c=some (c.take 16):=by
  unfold em;have hmin:aB (c.length:Int) 16=((min c.length 16:Nat):Int):=by rw [dq]; omega
  have:=nU (xs:=c) (i:=0) (j:=min c.length 16) (cG _) (by omega);rw [show ((0:Nat):Int)=0 from rfl] at this;rw [hmin,this];simp only [bsm,jy,nH];rw [cK (by simp; omega),ba];simp only [bsm];rw [show c.take (min c.length 16)=c.take 16 by rw [List.take_eq_take_iff]; omega]
theorem DY (c:List Int) (h:R32 c) (hl:c.length≤1000000) (hne:c≠ []):gb c=some (if sil (c.headD 0)=true then 0 else w16 c):=by
  cases c with
  | nil=>exact absurd rfl hne
  | cons a t=>
    unfold gb;rw [show idx (a :: t) 0=some a from rfl];simp only [bsm,mo];by_cases hs:sil a=true
    · rw [ae hs,ae (show sil ((a :: t).headD 0)=true from hs)]
    · rw [af hs,af (show ¬sil ((a :: t).headD 0)=true from hs),yT _ hl]
      simp only [bsm];have ht:((a :: t).take 16).length≤16:=by rw [ay]; omega
      have hr:R32 ((a :: t).take 16):=fun x hx=>h x (cO hx);unfold jF;rw [vj _ hr (by omega)];simp only [bsm];rw [GW _ _ (by simp) (by omega)];rfl
theorem FZ {p q:aa} {l:List Int} (h:R32 l) (hl:l.length≤1000000) (hq:fo rX p (cls pj pr l)=some q):gx p l=some q:=by
  obtain ⟨hf,hne,_⟩:=qz (pj:=pj) (pr:=pr) l;have hmem:∀c∈(cls pj pr l),∀x∈c,x∈l:=fun c hc x hx=>by rw [←hf]; exact List.mem_flatten.2 ⟨c,hc,hx⟩
  have hcl:∀c∈(cls pj pr l),c.length≤l.length:=fun c hc=>by
    obtain ⟨i,hi,rfl⟩:=List.mem_iff_getElem.1 hc;have e:(cls pj pr l).flatten=((cls pj pr l).take i).flatten++((cls pj pr l)[i]++((cls pj pr l).drop (i+1)).flatten):=by
      rw [←lD,←wy,←gw hi,gK]
    have:=ii List.length e;rw [hf] at this;simp only [aA] at this;omega
  have hcn:(cls pj pr l).length≤l.length:=by
    have key:∀cs:List (List Int),(∀c∈cs,c≠ [])→cs.length≤cs.flatten.length:=by
      intro cs
      induction cs with
      | nil=>intro _; simp
      | cons c cs ih=>
        intro h;have h1:=ih fun d hd=>h d (vZ _ hd);have h2:1≤c.length:=by
          cases c with
          | nil=>exact absurd rfl (h [] (by simp))
          | cons _ _=>simp
        simp only [lD,aJ,aA];omega
    have:=key (cls pj pr l) hne;rw [hf] at this;exact this
  unfold gx;rw [za l h hl];simp only [bsm];generalize (cls pj pr l)=cs at *;refine lv (n:=cs.length) (fun i st=>∃qi,fo rX p (cs.take i)=some qi∧st=((i:Int),qi.L,qi.At.Row,qi.At.Col,qi.At.Pending,qi.Auto)) (fun u=>u=(q.L,q.At.Row,q.At.Col,q.At.Pending,q.Auto)) (fun i st hi hI=>?_) (fun st hI=>?_) ⟨p,rfl,rfl⟩ (by omega) (fun u hu=>by rw [hu])
  · obtain ⟨qi,hqi,rfl⟩:=hI
    obtain ⟨q',h1,h2⟩:=AV hq hi hqi;have hci:=aG hi;have hcne:=hne _ hci;have hcL:=hcl _ hci;simp only;rw [ae (dlt hi),bc hi,er hi (by omega)];simp only [bsm];refine .inl ⟨((i+1:Nat),q'.L,q'.At.Row,q'.At.Col,q'.At.Pending,q'.Auto),?_,q',h2,rfl⟩;generalize cs[i]=c at *
    cases c with
    | nil=>exact absurd rfl hcne
    | cons a t=>
      rw [show idx (a :: t) 0=some a from rfl];simp only [bsm,mo];have hR:R32 (a :: t):=fun x hx=>h x (hmem _ hci x hx)
      cases hs:sil a with
      | false=>
        rw [vq hs] at h1;simp only [eB,bm];rw [DY _ hR (by omega) (by simp),yT _ (by omega)];simp only [bsm];rw [af (show ¬sil ((a :: t).headD 0)=true by rw [ID,hs]; simp)];rw [kL] at h1;obtain ⟨z,hz,rfl⟩:=h1;rw [show (⟨qi.L,⟨qi.At.Row,qi.At.Col,qi.At.Pending⟩,qi.Auto⟩:aa)=qi from rfl,hz];rfl
      | true=>
        rw [sV hs] at h1;simp only [cP,aj,aU];generalize hcc:a :: t=c at *;obtain ⟨u,e1,e2⟩:=dV (σ:=Int×(List ak)×Int×Int×Bool×Bool) (τ:=((List ak)×Int×Int×Bool×Bool)) (n:=c.length) (fuel:=((c.length:Int) - 0).toNat+1) (s:=(0,qi.L,qi.At.Row,qi.At.Col,qi.At.Pending,qi.Auto))
          (fun k st=>∃qk,fo Ab qi (c.take k)=some qk∧st=((k:Int),qk.L,qk.At.Row,qk.At.Col,qk.At.Pending,qk.Auto)) (fun u=>u=(q'.L,q'.At.Row,q'.At.Col,q'.At.Pending,q'.Auto))
          (step:=fun s_45=>
 (some c).bind fun x_49=>
 if (decide (s_45.1 < (x_49.length:Int)))=true then
 (some c).bind fun x_57=>
 (idx x_57 s_45.1).bind fun x_60=>
 (cw (⟨s_45.2.1,(⟨s_45.2.2.1,s_45.2.2.2.1,s_45.2.2.2.2.1⟩:ai),s_45.2.2.2.2.2⟩:aa) x_60).bind fun x_62=>
 some (.inl ((w64 (s_45.1+1)),x_62.1.L,x_62.1.At.Row,x_62.1.At.Col,x_62.1.At.Pending,x_62.1.Auto))
 else
 some (.inr (s_45.2.1,s_45.2.2.1,s_45.2.2.2.1,s_45.2.2.2.2.1,s_45.2.2.2.2.2)))
          (fun k st hk hI=>by
            obtain ⟨qk,g1,rfl⟩:=hI;obtain ⟨qn,g2,g3⟩:=AV h1 hk g1;unfold Ab at g2;rw [kL] at g2;obtain ⟨z,hz,rfl⟩:=g2;simp only [bsm];rw [ae (dlt hk),bc hk,er hk (by omega)];simp only [bsm];rw [show (⟨qk.L,⟨qk.At.Row,qk.At.Col,qk.At.Pending⟩,qk.Auto⟩:aa)=qk from rfl,hz];exact .inl ⟨_,rfl,_,g3,rfl⟩)
          (fun st hI=>by
            obtain ⟨qk,g1,rfl⟩:=hI;rw [aC (az _),h1] at g1;cases g1;simp only [bsm];exact ⟨_,by rw [af (by simp)],rfl⟩)
          ⟨qi,rfl,rfl⟩ (by omega)
        subst e2;simp only [bsm] at e1⊢;rw [e1];rfl
  · obtain ⟨qi,hqi,rfl⟩:=hI
    rw [aC (az _),hq] at hqi;cases hqi;exact ⟨_,by simp only; rw [af (by simp)],rfl⟩
end Go.Proofs.YthokmpbbkpjhbaaGreatDoor
namespace Go.Proofs.YthokmpbbkpjhbaaGreatDoor
def ld (b:Int):Int:=if b < 128 then 1 else if 194≤b∧b≤223 then 2 else if 224≤b∧b≤239 then 3 else if 240≤b∧b≤244 then 4 else 0
def slo (b:Int):Int:=if b=224 then 160 else if b=240 then 144 else 128
def shi (b:Int):Int:=if b=237 then 159 else if b=244 then 143 else 191
theorem sU (b:Int):0≤ld b∧ld b≤4:=by
 unfold ld
 repeat' split
 all_goals omega
def bg:List Int→Int
 | [a]=>ld a
 | [a,b]=>if 2≤ld a∧slo a≤b∧b≤shi a then ld a else 0
 | [a,b,c]=>if 3≤ld a∧slo a≤b∧b≤shi a∧128≤c∧c≤191 then ld a else 0
 | [a,b,c,d]=>if ld a=4∧slo a≤b∧b≤shi a∧128≤c∧c≤191∧128≤d∧d≤191 then 4 else 0
 | _=>0
def b0 (a:Int):Int:=if ld a=2 then a - 192 else if ld a=3 then a - 224 else if ld a=4 then a - 240 else a
def vl:List Int→Int
 | []=>0
 | a :: l=>l.foldl (fun v x=>v * 64+(x - 128)) (b0 a)
def rs0 (b:Int):List Int×List Int:=if 1 < ld b then ([],[b]) else if ld b=1 then ([b],[]) else ([65533],[])
def jh (h:List Int) (b:Int):List Int×List Int:=
 if h= [] then rs0 b else if (h.length:Int)+1 < bg (h++ [b]) then ([],h++ [b]) else if 0 < bg (h++ [b]) then ([vl (h++ [b])],[]) else (65533 :: (rs0 b).1,(rs0 b).2)
def bv:List Int→List Int→List Int×List Int
 | h,[]=>([],h)
 | h,b :: p=>((jh h b).1++(bv (jh h b).2 p).1,(bv (jh h b).2 p).2)
theorem ow (h a b:List Int):bv h (a++b)=((bv h a).1++(bv (bv h a).2 b).1,(bv (bv h a).2 b).2):=by
 induction a generalizing h with
 | nil=>simp [bv]
 | cons x a ih=>simp [bv,ih]
theorem pg (h a:List Int) (x:Int):bv h (a++ [x])=((bv h a).1++(jh (bv h a).2 x).1,(jh (bv h a).2 x).2):=by
 rw [ow];simp [bv]
def Hh (h:List Int):Prop:=h= []∨(h.length:Int) < bg h
theorem Hh.step {h:List Int} (hh:Hh h) (b:Int):Hh (jh h b).2:=by
 unfold jh;have h0:Hh (rs0 b).2:=by
  unfold rs0;split
  ·rename_i q; exact .inr q
  ·split <;> exact .inl rfl
 split
 ·exact h0
 ·split
  ·rename_i q; exact .inr (by simp only [aA,aJ,aQ]; omega)
  ·split
   ·exact .inl rfl
   ·exact h0
theorem Hh.feed {h:List Int} (hh:Hh h) (p:List Int):Hh (bv h p).2:=by
 induction p generalizing h with
 | nil=>exact hh
 | cons b p ih=>exact ih (hh.step b)
theorem Hh.len {h:List Int} (hh:Hh h):h.length≤3:=by
 rcases hh with rfl | hh
 ·simp
 ·match h,hh with
  | [],_=>simp
  | [_],_=>simp
  | [_,_],_=>simp
  | [_,_,_],_=>simp
  | [a,b,c,d],q=>simp only [bg,aJ,aQ] at q; split at q <;> omega
  | _ :: _ :: _ :: _ :: _ :: _,q=>simp only [bg,aJ] at q; omega
theorem E2 {l:List Int} (h:5≤l.length):bg l=0:=by
 match l,h with
 | [],h=>simp at h
 | [_],h=>simp at h
 | [_,_],h=>simp at h
 | [_,_,_],h=>simp at h
 | [_,_,_,_],h=>simp at h
 | _ :: _ :: _ :: _ :: _ :: _,_=>rfl
theorem Gt {h:List Int} {b:Int} (hne:h≠ []) (hb:0 < bg (h++ [b])):bg h=bg (h++ [b]):=by
 match h,hne,hb with
 | [a],_,q=>simp only [cm,ba,bg] at q⊢; split at q <;> rename_i g; rw [ae g]; omega
 | [a,c],_,q=>
  simp only [cm,ba,bg] at q⊢;split at q
  ·rename_i g; rw [ae g,ae ⟨by omega,g.2.1,g.2.2.1⟩]
  ·omega
 | [a,c,d],_,q=>
  simp only [cm,ba,bg] at q⊢;split at q
  ·rename_i g; rw [ae g,ae ⟨by omega,g.2.1,g.2.2.1,g.2.2.2.1,g.2.2.2.2.1⟩]; exact g.1
  ·omega
 | a :: c :: d :: e :: t,_,q=>rw [E2 (by simp)] at q; omega
theorem tW {c:List Int} (hc:c≠ []) (h:∀k,0 < k→k≤c.length→(k:Int) < bg (c.take k)):bv [] c=([],c):=by
 have key:∀n,n≤c.length→bv [] (c.take n)=([],c.take n):=by
  intro n
  induction n with
  | zero=>intro _; rfl
  | succ n ih=>
   intro hn;have h1:=h (n+1) (by omega) hn;rw [av (by omega)] at h1⊢;rw [pg,ih (by omega)];have h2:jh (c.take n) c[n]=([],c.take n++ [c[n]]):=by
    unfold jh;by_cases hz:c.take n= []
    ·rw [ae hz,hz];rw [hz] at h1;simp only [ba,bg] at h1;have hn0:n=0:=by
      have:=ii List.length hz;rw [ay,aQ] at this;omega
     subst hn0;unfold rs0;rw [ae (by simpa using h1)];rfl
    ·have hl:(c.take n).length=n:=by rw [ay]; omega
     rw [af hz,ae (by rw [hl]; omega)]
   rw [h2];rfl
 have:=key c.length (az _)
 rwa [aC (az _)] at this
structure GK (c:List Int) (k:Nat):Prop where
 le:k≤c.length
 lt:∀m,0 < m→m < k→(m:Int) < bg (c.take m)
 z:k=0→bg (c.take 1)=0
 p:0 < k→0 < bg (c.take k)
 e:0 < k→(k:Int) < bg (c.take k)→k=c.length∨bg (c.take (k+1))=0
theorem tJ (b:Int):jh [] b=rs0 b:=by
 unfold jh;rw [ae rfl]
theorem vg (b:Int) (p:List Int):bv [] (b :: p)=((rs0 b).1++(bv (rs0 b).2 p).1,(bv (rs0 b).2 p).2):=by
 rw [bv,tJ]
theorem vn {c:List Int} {k:Nat} (h:GK c k) (hk:0 < k) (hw:bg (c.take k)=k):bv [] c=(vl (c.take k) :: (bv [] (c.drop k)).1,(bv [] (c.drop k)).2):=by
 have hle:=h.le
 conv=>lhs; rw [←gK k c]
 rw [ow]
 suffices e:bv [] (c.take k)=([vl (c.take k)],[]) by
  rw [e];rfl
 obtain ⟨m,rfl⟩:∃m,k=m+1:=⟨k - 1,by omega⟩;have ht:c.take (m+1)=c.take m++ [c[m]]:=av (by omega);rw [ht] at hw⊢;rw [pg];have hl:(c.take m).length=m:=by rw [ay]; omega
 by_cases hm:m=0
 ·subst hm;simp only [eA,ba] at hw⊢;simp only [bv,tJ];unfold rs0;simp only [bg] at hw;rw [af (by omega),ae (by omega)];simp only [vl,List.foldl,b0];rw [af (by omega),af (by omega),af (by omega)];rfl
 ·have hne:c.take m≠ []:=fun e=>by rw [e] at hl; simp at hl; omega
  rw [tW hne (fun n h0 hn=>by
   rw [fg,show min n m=n by rw [hl] at hn; omega];exact h.lt n h0 (by omega))]
  simp only;have h2:jh (c.take m) c[m]=([vl (c.take m++ [c[m]])],[]):=by
   unfold jh;rw [af hne,af (by rw [hl,hw]; simp),ae (by rw [hw]; omega)]
  rw [h2];rfl
theorem BG {c:List Int} (hc:c≠ []) (h:bg (c.take 1)=0):bv [] c=(65533 :: (bv [] (c.drop 1)).1,(bv [] (c.drop 1)).2):=by
 cases c with
 | nil=>exact absurd rfl hc
 | cons a c=>
  simp only [mw,eA,bg] at h;rw [vg];unfold rs0;rw [af (by omega),af (by omega)];rfl
theorem yA {c:List Int} (h:GK c c.length) (hk:0 < c.length) (hw:(c.length:Int) < bg c):bv [] c=([],c):=by
 refine tW (fun e=>by rw [e] at hk; simp at hk) fun k h0 hn=>?_;by_cases hkk:k=c.length
 ·subst hkk;rw [aC (az _)];exact hw
 ·exact h.lt k h0 (by omega)
theorem BF {c:List Int} {k:Nat} (h:GK c k) (hk:0 < k) (hw:(k:Int) < bg (c.take k)) (hlt:k < c.length):bv [] c=(65533 :: (bv [] (c.drop k)).1,(bv [] (c.drop k)).2):=by
 have hl:(c.take k).length=k:=by rw [ay]; omega
 have hne:c.take k≠ []:=fun e=>by rw [e] at hl; simp at hl; omega
 have hz:bg (c.take (k+1))=0:=by
  rcases h.e hk hw with q | q
  ·omega
  ·exact q
 conv=>lhs; rw [←gK k c]
 rw [ow,tW hne (fun n h0 hn=>by
  rw [fg,show min n k=n by rw [hl] at hn; omega];by_cases hkk:n=k
  ·subst hkk; exact hw
  ·exact h.lt n h0 (by rw [hl] at hn; omega))]
 rw [gw hlt];simp only [ba];rw [av hlt] at hz;have h2:jh (c.take k) c[k]=(65533 :: (rs0 c[k]).1,(rs0 c[k]).2):=by
  unfold jh;rw [af hne,af (by rw [hz]; omega),af (by rw [hz]; omega)]
 rw [vg,bv,h2];rfl
end Go.Proofs.YthokmpbbkpjhbaaGreatDoor
namespace Go.Proofs.YthokmpbbkpjhbaaGreatDoor
open Go Go.Lt
def Byt (b:Int):Prop:=0≤b∧b≤255
def Bts (l:List Int):Prop:=∀x∈l,Byt x
theorem yE {b:Int} (h:Byt b):jE b=some (ld b):=by
 obtain ⟨h1,h2⟩:=h;unfold jE ld;simp only [aZ,bsm,aw,an,zW];have e1:w64 (0+1)=1:=rfl;have e2:w64 (1+1)=2:=rfl;have e3:w64 (2+1)=3:=rfl;have e4:w64 (3+1)=4:=rfl;rw [e1,e2,e3,e4]
 repeat' split
 all_goals first | rfl | omega
theorem zQ {b:Int} (h:Byt b) (hl:2≤ld b):kh b=some (slo b,shi b):=by
 unfold kh slo shi;rw [yE h];simp only [bsm,aV,an];rw [af (by omega)];have e1:IntKind.u8.wrap (IntKind.u8.wrap (191 - 16) - 32)=143:=by decide
 have e2:IntKind.u8.wrap (191 - 32)=159:=by decide
 rw [e1,e2];by_cases a1:b=224
 ·subst a1; rfl
 by_cases a2:b=240
 ·subst a2; rfl
 by_cases a3:b=244
 ·subst a3; rfl
 by_cases a4:b=237
 ·subst a4; rfl
 rw [af a1,af a2,af a3,af a4,af a1,af a2,af a4,af a3];rfl
def DG (n:Nat):Bool:=(lK n==if ld n=0 then some 0 else some (b0 n))
theorem DF:(List.range 256).all DG=true:=by kernel_rfl
theorem C1 {b:Int} (h:Byt b) (hl:1≤ld b):lK b=some (b0 b):=by
 obtain ⟨h1,h2⟩:=h;have:=List.all_eq_true.1 DF b.toNat (List.mem_range.2 (by omega));unfold DG at this;rw [aV,pJ h1,af (by omega)] at this;exact this
def Co (n:Nat):Bool:=(kO .u8 n 63==if 128≤n∧n≤191 then (n:Int) - 128 else kO .u8 n 63)
theorem Cn:(List.range 256).all Co=true:=by kernel_rfl
theorem Cm {b:Int} (h1:128≤b) (h2:b≤191):kO .u8 b 63=b - 128:=by
 have:=List.all_eq_true.1 Cn b.toNat (List.mem_range.2 (by omega));unfold Co at this;rw [aV,pJ (by omega),ae (by omega)] at this;exact this
theorem FU {x y:Nat} (hx:x < 1000000000) (hy:y < 64):rm .i64 ((x:Int) * 64) (y:Int)=((x * 64+y:Nat):Int):=by
 have e1:BitVec.ofInt 64 ((x:Int) * 64)=BitVec.ofNat 64 (x * 64):=by
  rw [show ((x:Int) * 64)=((x * 64:Nat):Int) by simp,HG]
 have e2:BitVec.ofInt 64 (y:Int)=BitVec.ofNat 64 y:=HG _ _;have e3:(x * 64) ||| y=x * 64+y:=by
  have:=Nat.shiftLeft_add_eq_or_of_lt (show y < 2 ^ 6 by omega) x;rw [Nat.shiftLeft_eq] at this;exact this.symm
 unfold rm;rw [show IntKind.i64.bits=64 from rfl,e1,e2,BitVec.toNat_or,Ie,Ie,Aq (by omega),Aq (by omega),e3];exact aF (by omega)
def Dv (d:bA) (h:List Int):Prop:=
 Hh h∧Bts h∧d=(match h with | []=>⟨0,0,0,0,0⟩ | [a]=>⟨1,ld a - 1,slo a,shi a,b0 a⟩ | a :: b :: t=>⟨(h.length:Int),bg h - (h.length:Int),128,191,vl h⟩)
theorem xb {b:Int} (h:Byt b):∃d',ct ⟨0,0,0,0,0⟩ b=some (d',(rs0 b).1)∧Dv d' (rs0 b).2:=by
 have hb:=h;obtain ⟨h1,h2⟩:=hb;unfold ct rs0;rw [yE h];simp only [bsm,aV];have hin:=sU b;by_cases e0:ld b=0
 ·rw [ae e0,af (by omega),af (by omega)];exact ⟨_,rfl,.inl rfl,fun x hx=>by simp at hx,rfl⟩
 ·rw [af e0];by_cases e1:ld b=1
  ·rw [ae e1,af (by omega),ae e1,xd (by omega)];exact ⟨_,rfl,.inl rfl,fun x hx=>by simp at hx,rfl⟩
  ·rw [af e1,ae (by omega),C1 h (by omega),zQ h (by omega)];simp only [bsm];rw [aF (by omega)];refine ⟨_,rfl,.inr ?_,fun x hx=>?_,rfl⟩
   ·simp only [aJ,aQ,bg]; omega
   ·rw [List.mem_singleton.1 hx]; exact h
theorem Av {h:List Int} (hne:h≠ []) (b:Int):vl (h++ [b])=vl h * 64+(b - 128):=by
 cases h with
 | nil=>exact absurd rfl hne
 | cons a t=>simp [vl,lC]
theorem DJ {a:Int} (h:Byt a) (hl:2≤ld a):0≤b0 a∧b0 a≤31:=by
 obtain ⟨h1,h2⟩:=h;unfold b0;unfold ld at hl;unfold ld
 repeat' split at hl
 all_goals (repeat' split)
 all_goals omega
theorem Fb {h:List Int} (hh:Hh h) (hb:Bts h) (hne:h≠ []):0≤vl h∧vl h≤131071:=by
 rcases hh with rfl | hh
 ·exact absurd rfl hne
 ·match h,hh with
  | [],_=>exact absurd rfl hne
  | [a],q=>
   have ha:=hb a (by simp);simp only [bg,aJ,aQ] at q;have:=DJ ha (by omega);simp only [vl,List.foldl];omega
  | [a,b],q=>
   have ha:=hb a (by simp);simp only [bg,aJ,aQ] at q;split at q
   ·rename_i g
    have:=DJ ha (by omega);have hs:128≤b∧b≤191:=by
     have:=g.2;unfold slo shi at this
     repeat' split at this
     all_goals omega
    simp only [vl,List.foldl];omega
   ·omega
  | [a,b,c],q=>
   have ha:=hb a (by simp);simp only [bg,aJ,aQ] at q;split at q
   ·rename_i g
    have:=DJ ha (by omega);have hs:128≤b∧b≤191:=by
     have:=g.2;unfold slo shi at this
     repeat' split at this
     all_goals omega
    simp only [vl,List.foldl];omega
   ·omega
  | [a,b,c,d],q=>simp only [bg,aJ,aQ] at q; split at q <;> omega
  | _ :: _ :: _ :: _ :: _ :: _,q=>simp only [bg,aJ] at q; omega
theorem yG {h:List Int} (hh:(h.length:Int) < bg h) (hne:h≠ []) (b:Int):∃lo hi,(match h with | [a]=>(slo a,shi a) | _=>(128,191))=(lo,hi)∧128≤lo∧hi≤191∧
  ((lo≤b∧b≤hi)→bg (h++ [b])=bg h)∧(¬(lo≤b∧b≤hi)→bg (h++ [b])=0):=by
 match h,hh with
 | [],_=>exact absurd rfl hne
 | [a],q=>
  simp only [bg,aJ,aQ] at q;refine ⟨slo a,shi a,rfl,by unfold slo; repeat' split; all_goals omega,by unfold shi; repeat' split; all_goals omega,fun g=>?_,fun g=>?_⟩
  ·simp only [cm,ba,bg];rw [ae ⟨by omega,g.1,g.2⟩]
  ·simp only [cm,ba,bg];rw [af (fun c=>g c.2)]
 | [a,c],q=>
  simp only [bg,aJ,aQ] at q;refine ⟨128,191,rfl,by omega,by omega,fun g=>?_,fun g=>?_⟩
  ·simp only [cm,ba,bg];split at q
   ·rename_i r
    rw [ae ⟨by omega,r.2.1,r.2.2,g.1,g.2⟩,ae r]
   ·omega
  ·simp only [cm,ba,bg];rw [af (fun r=>g r.2.2.2)]
 | [a,c,d],q=>
  have hl:=sU a;simp only [bg,aJ,aQ] at q;refine ⟨128,191,rfl,by omega,by omega,fun g=>?_,fun g=>?_⟩
  ·simp only [cm,ba,bg];split at q
   ·rename_i r
    rw [ae ⟨by omega,r.2.1,r.2.2.1,r.2.2.2.1,r.2.2.2.2,g.1,g.2⟩,ae r];omega
   ·omega
  ·simp only [cm,ba,bg];rw [af (fun r=>g r.2.2.2.2.2)]
 | [a,b,c,d],q=>simp only [bg,aJ,aQ] at q; split at q <;> omega
 | _ :: _ :: _ :: _ :: _ :: _,q=>simp only [bg,aJ] at q; omega
theorem Dv.shape {d:bA} {h:List Int} (v:Dv d h) (hne:h≠ []):∃lo hi,(match h with | [a]=>(slo a,shi a) | _=>(128,191))=(lo,hi)∧d=⟨(h.length:Int),bg h - (h.length:Int),lo,hi,vl h⟩:=by
 obtain ⟨_,_,e⟩:=v
 match h,e with
 | [],_=>exact absurd rfl hne
 | [a],e=>exact ⟨_,_,rfl,e⟩
 | a :: b :: t,e=>exact ⟨_,_,rfl,e⟩
theorem Do {d:bA} {h:List Int} (v:Dv d h) {b:Int} (hb:Byt b):∃d',cR d b=some (d',(jh h b).1)∧Dv d' (jh h b).2:=by
 have v0:=v;obtain ⟨hh,hbs,e⟩:=v;unfold cR jh;simp only [aj,aU];by_cases hne:h= []
 ·subst hne;simp only at e;subst e;obtain ⟨d',a1,a2⟩:=xb hb;simp only [tw,eq_self,bm,a1,bsm];exact ⟨d',rfl,a2⟩
 ·obtain ⟨lo,hi,e1,e2⟩:=v0.shape hne;have hlt:(h.length:Int) < bg h:=by
   rcases hh with q | q
   ·exact absurd q hne
   ·exact q
  obtain ⟨lo',hi',f1,f2,f3,f4,f5⟩:=yG hlt hne b;rw [e1] at f1;cases f1;subst e2;have hlen:0 < h.length:=by
   cases h with
   | nil=>exact absurd rfl hne
   | cons _ _=>simp
  have hl3:=hh.len;rw [af hne];simp only [aV];rw [af (by omega)];simp only [br,bsm,aD,an,gt_iff_lt];by_cases hr:lo≤b∧b≤hi
  ·have hbg:=f4 hr;have hvl:=Fb hh hbs hne;have hbgl:bg h≤4:=by
    match h,hlen with
    | [a],_=>simp only [bg]; exact (sU a).2
    | [a,b],_=>simp only [bg]; split <;> first | exact (sU a).2 | omega
    | [a,b,c],_=>simp only [bg]; split <;> first | exact (sU a).2 | omega
    | a :: b :: c :: x :: t,_=>simp at hl3
   have hbits:rm .i64 (w64 (vl h * 2 ^ 6)) (w64 (kO .u8 b 63))=vl h * 64+(b - 128):=by
    obtain ⟨x,hx⟩:∃x:Nat,vl h=(x:Int):=⟨(vl h).toNat,by omega⟩;obtain ⟨y,hy⟩:∃y:Nat,b - 128=(y:Int):=⟨(b - 128).toNat,by omega⟩;rw [Cm (by omega) (by omega),hx,hy,show ((x:Int) * 2 ^ 6)=(x:Int) * 64 from rfl,aF (by omega),aF (by omega),FU (by omega) (by omega)];simp
   have hbs':Bts (h++ [b]):=fun x hx=>by
    rcases List.mem_append.1 hx with hx | hx
    ·exact hbs x hx
    ·rw [List.mem_singleton.1 hx]; exact hb
   have hsn:=Av hne b;rw [af (by omega),aF (by omega),aF (by omega),hbits,←hsn];by_cases hm:(h.length:Int)+1 < bg h
   ·rw [ae (by omega),ae (by rw [hbg]; omega)];refine ⟨_,rfl,.inr (by rw [hbg]; simp; omega),hbs',?_⟩;simp only [hbg]
    match h,hlen with
    | a :: t,_=>
     cases t with
     | nil=>simp only [cm,ba,aJ,aQ,bA.mk.injEq,vW,uU]; omega
     | cons b2 t=>simp only [cm,aJ,aA,aQ,bA.mk.injEq,vW,uU]; omega
   ·rw [af (by omega),af (by rw [hbg]; omega),ae (by rw [hbg]; omega),xd (by rw [hsn]; omega)];exact ⟨_,rfl,.inl rfl,fun x hx=>by simp at hx,rfl⟩
  ·have hz:=f5 hr;rw [ae (by omega),af (by rw [hz]; omega),af (by rw [hz]; omega)];have hfl:bK ⟨(h.length:Int),bg h - (h.length:Int),lo,hi,vl h⟩=some (⟨0,0,0,0,0⟩,[65533]):=by
    unfold bK cf;simp only [aj,aU,bsm,aV];rw [af (by omega)]
   rw [hfl];simp only [bsm];obtain ⟨d',a1,a2⟩:=xb hb;rw [a1];simp only [bsm];have hrl:(rs0 b).1.length≤1:=by
    unfold rs0;split
    ·simp
    ·split <;> simp
   rw [cK (by simp; omega)];exact ⟨d',rfl,a2⟩
theorem Dp {d:bA} {h:List Int} (v:Dv d h):cf d=some (h.length:Int):=by
 unfold cf;simp only [aj,aU];by_cases hne:h= []
 ·subst hne;obtain ⟨_,_,e⟩:=v;simp only at e;rw [e];rfl
 ·obtain ⟨lo,hi,_,e⟩:=v.shape hne;rw [e]
theorem BW {d:bA} {h:List Int} (v:Dv d h):bK d=some (⟨0,0,0,0,0⟩,if h= [] then [] else [65533]):=by
 unfold bK;rw [Dp v];simp only [bsm,aV];by_cases hne:h= []
 ·subst hne;obtain ⟨_,_,e⟩:=v;simp only at e;rw [ae (by simp),ae rfl,e]
 ·rw [af (fun e=>hne (eV (by omega))),af hne]
theorem Dv.zero:Dv ⟨0,0,0,0,0⟩ []:=⟨.inl rfl,fun x hx=>by simp at hx,rfl⟩
theorem Da {σ τ:Type} (n:Nat) (f:σ→Option (σ ⊕ τ)) (s:σ):cE (n+1) f s=(f s).bind fun x=>match x with | .inl s'=>cE n f s' | .inr t=>some t:=rfl
def lp:List Int→Nat→Int→Int→Bool ⊕ (Int×Int)
 | _,0,lo,hi=> .inr (lo,hi)
 | x :: xs,k+1,lo,hi=>if 128≤x∧x≤191 then lp xs k (lo * 64+(x - 128)) (hi * 64+(x - 128)) else .inl false
 | [],k+1,lo,hi=>lp [] k (lo * 64) (hi * 64+63)
def bd (k:Nat):Int:=if k=3 then 127 else if k=2 then 8191 else if k=1 then 524287 else 33554431
def mk (n:Nat):Int:=if n=2 then 192 else if n=3 then 224 else if n=4 then 240 else 0
def sz (n:Nat):Int:=if n=1 then 128 else if n=2 then 32 else if n=3 then 16 else if n=4 then 8 else 0
def fr (n:Nat):Int:=if n=2 then 128 else if n=3 then 2048 else if n=4 then 65536 else 0
def to (n:Nat):Int:=if n=1 then 127 else if n=2 then 2047 else if n=3 then 65535 else if n=4 then 1114111 else 0
theorem Fj {n:Nat} (h1:1≤n) (h2:n≤4):idx ([0,0,192,224,240]:List Int) n=some (mk n)∧idx ([0,128,32,16,8]:List Int) n=some (sz n)∧idx ([0,0,128,2048,65536]:List Int) n=some (fr n)∧idx ([0,127,2047,65535,1114111]:List Int) n=some (to n):=by
 have:n=1∨n=2∨n=3∨n=4:=by omega
 rcases this with rfl | rfl | rfl | rfl <;> exact ⟨rfl,rfl,rfl,rfl⟩
def sst (p:List Int) (n:Nat):Int×Int×Int→Option ((Int×Int×Int) ⊕ (Bool ⊕ (Int×Int))):=fun s_40=>
 if (decide (s_40.2.2 < (n:Int)))=true then
 if (decide (s_40.2.2 < (p.length:Int)))=true then
 (idx p s_40.2.2).bind fun x_62=>
 (orE (decide ((w64 ((w64 x_62) - 128)) < 0)) (some (decide ((w64 ((w64 x_62) - 128)) > 63)))).bind fun d_70=>
 if d_70=true then
 some (.inr (.inl false))
 else
 some (.inl ((w64 ((w64 (s_40.1 * 64))+(w64 ((w64 x_62) - 128)))),(w64 ((w64 ((w64 ((w64 (s_40.2.1 * 64))+63)) - 63))+(w64 ((w64 x_62) - 128)))),(w64 (s_40.2.2+1))))
 else
 some (.inl ((w64 (s_40.1 * 64)),(w64 ((w64 (s_40.2.1 * 64))+63)),(w64 (s_40.2.2+1))))
 else
 some (.inr (.inr (s_40.1,s_40.2.1)))
theorem Bd (p:List Int) (hp:Bts p) (n:Nat) (hn:n≤4):∀(k:Nat) (i:Nat) (lo hi:Int),k≤3→1≤i→i+k=n→0≤lo→lo≤bd k→0≤hi→hi≤bd k→cE (σ:=Int×Int×Int) (τ:=Bool ⊕ (Int×Int)) (k+1) (sst p n) (lo,hi,(i:Int))=some (lp (p.drop i) k lo hi):=by
 intro k
 induction k with
 | zero=>
  intro i lo hi _ _ hik _ _ _ _;rw [Da];have e:sst p n (lo,hi,(i:Int))=some (.inr (.inr (lo,hi))):=by
   unfold sst;simp only;rw [af (by simp; omega)]
  rw [e]
  cases p.drop i <;> rfl
 | succ k ih=>
  intro i lo hi hk h1 hik a1 a2 a3 a4;have hb:(bd (k+1)+1) * 64≤bd k+1:=by
   have:k=0∨k=1∨k=2:=by omega
   rcases this with rfl | rfl | rfl <;> decide
  have hb2:bd k≤33554431:=by unfold bd; repeat' split; all_goals omega
  rw [Da];by_cases hi':i < p.length
  ·rw [gw hi'];have hx:=hp _ (aG hi');obtain ⟨x1,x2⟩:=hx;unfold lp;have e:sst p n (lo,hi,(i:Int))=if 128≤p[i]∧p[i]≤191 then some (.inl (lo * 64+(p[i] - 128),hi * 64+(p[i] - 128),((i+1:Nat):Int))) else some (.inr (.inl false)):=by
    unfold sst;simp only;rw [ae (by simp; omega),er (show i < n by omega) (by omega),ae (dlt hi'),bc hi'];simp only [bsm,br,aD,an];rw [aF (n:=p[i]) (by omega),aF (n:=p[i] - 128) (by omega)];by_cases hr:128≤p[i]∧p[i]≤191
    ·rw [af (by omega),ae hr];rw [aF (n:=lo * 64) (by omega),aF (n:=hi * 64) (by omega),aF (n:=hi * 64+63) (by omega),aF (n:=hi * 64+63 - 63) (by omega),aF (n:=lo * 64+(p[i] - 128)) (by omega),aF (n:=hi * 64+63 - 63+(p[i] - 128)) (by omega),show hi * 64+63 - 63+(p[i] - 128)=hi * 64+(p[i] - 128) by omega]
    ·rw [ae (by omega),af hr]
   rw [e];by_cases hr:128≤p[i]∧p[i]≤191
   ·rw [ae hr,ae hr];exact ih (i+1) (lo * 64+(p[i] - 128)) (hi * 64+(p[i] - 128)) (by omega) (by omega) (by omega) (by omega) (by omega) (by omega) (by omega)
   ·rw [af hr,af hr];rfl
  ·rw [gg (by omega)];unfold lp;have e:sst p n (lo,hi,(i:Int))=some (.inl (lo * 64,hi * 64+63,((i+1:Nat):Int))):=by
    unfold sst;simp only;rw [ae (by simp; omega),er (show i < n by omega) (by omega),af (by simp; omega)];rw [aF (n:=lo * 64) (by omega),aF (n:=hi * 64) (by omega),aF (n:=hi * 64+63) (by omega)]
   rw [e];have:=ih (i+1) (lo * 64) (hi * 64+63) (by omega) (by omega) (by omega) (by omega) (by omega) (by omega) (by omega);rw [gg (by omega)] at this;exact this
def Bi (n:Nat) (z:Bool ⊕ (Int×Int)):Bool:=match z with | .inl b=>b | .inr (lo,hi)=>decide (max lo (fr n)≤min hi (to n)) && (decide (max lo (fr n) < 55296) || decide (min hi (to n) > 57343))
def smf (a:Int) (t:List Int) (n:Nat):Bool:=if a - mk n < 0∨sz n≤a - mk n then false else Bi n (lp t (n - 1) (a - mk n) (a - mk n))
theorem D3 {a:Int} {t:List Int} (hp:Bts (a :: t)) {n:Nat} (h1:1≤n) (h2:n≤4):eR (a :: t) n=some (smf a t n):=by
 obtain ⟨a1,a2⟩:=hp a (by simp);obtain ⟨m1,m2,m3,m4⟩:=Fj h1 h2;have hm:0≤mk n∧mk n≤240:=by unfold mk; repeat' split; all_goals omega
 have hsz:sz n≤bd (n - 1)+1:=by
  have:n=1∨n=2∨n=3∨n=4:=by omega
  rcases this with rfl | rfl | rfl | rfl <;> decide
 unfold eR smf;rw [m1,m2,m3,m4,show idx (a :: t) 0=some a from rfl];simp only [bsm];rw [aF (n:=a) (by omega),aF (n:=a - mk n) (by omega),br];simp only [bsm];by_cases hA:a - mk n < 0∨sz n≤a - mk n
 ·rw [ae (by simp only [aD,an]; omega),ae hA]
 ·rw [af (by simp only [aD,an]; omega),af hA,show ((n:Int) - 1).toNat+1=(n - 1)+1 by omega];have:=Bd (a :: t) hp n h2 (n - 1) 1 (a - mk n) (a - mk n) (by omega) (by omega) (by omega) (by omega) (by omega) (by omega) (by omega);unfold sst at this;simp only [Int.natCast_one,List.drop_succ_cons,jy] at this;rw [this];simp only [bsm]
  cases lp t (n - 1) (a - mk n) (a - mk n) with
  | inl b=>rfl
  | inr z=>simp only [eX,dq,aZ,br,bsm,Bi]
theorem oz (a:Int):(ld a=1∧a < 128)∨(ld a=2∧194≤a∧a≤223)∨(ld a=3∧224≤a∧a≤239)∨(ld a=4∧240≤a∧a≤244)∨(ld a=0∧128≤a∧¬(194≤a∧a≤244)):=by
 unfold ld
 repeat' split
 all_goals omega
theorem FB {a:Int} {t:List Int} (hp:Bts (a :: t)) {n:Nat} (h1:1≤n) (h2:n≤4) (h3:t.length+1≤n):smf a t n=true↔bg (a :: t)=(n:Int):=by
 have hl:=oz a;obtain ⟨a1,a2⟩:=hp a (by simp);have:n=1∨n=2∨n=3∨n=4:=by omega
 match t,hp,h3 with
 | [],_,_=>
  rcases this with rfl | rfl | rfl | rfl <;>
   simp only [smf,lp,Bi,bg,mk,sz,fr,to,Nat.reduceEqDiff,bm,aU,Nat.reduceSub,aw,aD,an] <;> split <;>
   simp only [aw,aD,an,aj,lZ] <;> omega
 | [b],hp,h3=>
  obtain ⟨b1,b2⟩:=hp b (by simp);simp only [aJ,aQ] at h3;have hs:slo a=(if a=224 then 160 else if a=240 then 144 else 128)∧shi a=(if a=237 then 159 else if a=244 then 143 else 191):=⟨rfl,rfl⟩;have hs1:(a=224∧slo a=160)∨(a=240∧slo a=144)∨(a≠224∧a≠240∧slo a=128):=by rw [hs.1]; repeat' split; all_goals omega
  have hs2:(a=237∧shi a=159)∨(a=244∧shi a=143)∨(a≠237∧a≠244∧shi a=191):=by rw [hs.2]; repeat' split; all_goals omega
  clear hs
  have hbg:bg [a,b]=if 2≤ld a∧slo a≤b∧b≤shi a then ld a else 0:=rfl;rw [hbg];rcases this with rfl | rfl | rfl | rfl
  ·omega
  all_goals
   simp only [smf,lp,Bi,mk,sz,fr,to,Nat.reduceEqDiff,bm,aU,Nat.reduceSub];split
   ·split <;> simp only [aj,lZ] <;> omega
   ·by_cases hb:128≤b∧b≤191
    ·simp only [ae hb,aw,aD,an];split <;> omega
    ·simp only [af hb];split <;> simp only [aj,lZ] <;> omega
 | [b,c],hp,h3=>
  obtain ⟨b1,b2⟩:=hp b (by simp);obtain ⟨c1,c2⟩:=hp c (by simp);simp only [aJ,aQ] at h3;have hs:slo a=(if a=224 then 160 else if a=240 then 144 else 128)∧shi a=(if a=237 then 159 else if a=244 then 143 else 191):=⟨rfl,rfl⟩;have hs1:(a=224∧slo a=160)∨(a=240∧slo a=144)∨(a≠224∧a≠240∧slo a=128):=by rw [hs.1]; repeat' split; all_goals omega
  have hs2:(a=237∧shi a=159)∨(a=244∧shi a=143)∨(a≠237∧a≠244∧shi a=191):=by rw [hs.2]; repeat' split; all_goals omega
  clear hs
  have hbg:bg [a,b,c]=if 3≤ld a∧slo a≤b∧b≤shi a∧128≤c∧c≤191 then ld a else 0:=rfl;rw [hbg];rcases this with rfl | rfl | rfl | rfl
  ·omega
  ·omega
  all_goals
   simp only [smf,lp,Bi,mk,sz,fr,to,Nat.reduceEqDiff,bm,aU,Nat.reduceSub];split
   ·split <;> simp only [aj,lZ] <;> omega
   ·by_cases hb:128≤b∧b≤191
    ·by_cases hc:128≤c∧c≤191
     ·simp only [ae hb,ae hc,aw,aD,an];split <;> omega
     ·simp only [ae hb,af hc];split <;> simp only [aj,lZ] <;> omega
    ·simp only [af hb];split <;> simp only [aj,lZ] <;> omega
 | [b,c,d],hp,h3=>
  obtain ⟨b1,b2⟩:=hp b (by simp);obtain ⟨c1,c2⟩:=hp c (by simp);obtain ⟨d1,d2⟩:=hp d (by simp);simp only [aJ,aQ] at h3;have hs:slo a=(if a=224 then 160 else if a=240 then 144 else 128)∧shi a=(if a=237 then 159 else if a=244 then 143 else 191):=⟨rfl,rfl⟩;have hs1:(a=224∧slo a=160)∨(a=240∧slo a=144)∨(a≠224∧a≠240∧slo a=128):=by rw [hs.1]; repeat' split; all_goals omega
  have hs2:(a=237∧shi a=159)∨(a=244∧shi a=143)∨(a≠237∧a≠244∧shi a=191):=by rw [hs.2]; repeat' split; all_goals omega
  clear hs
  have hbg:bg [a,b,c,d]=if ld a=4∧slo a≤b∧b≤shi a∧128≤c∧c≤191∧128≤d∧d≤191 then 4 else 0:=rfl;rw [hbg];rcases this with rfl | rfl | rfl | rfl
  ·omega
  ·omega
  ·omega
  ·simp only [smf,lp,Bi,mk,sz,fr,to,Nat.reduceEqDiff,bm,aU,Nat.reduceSub];split
   ·split <;> simp only [aj,lZ] <;> omega
   ·by_cases hb:128≤b∧b≤191
    ·by_cases hc:128≤c∧c≤191
     ·by_cases hd:128≤d∧d≤191
      ·simp only [ae hb,ae hc,ae hd,aw,aD,an];split <;> omega
      ·simp only [ae hb,ae hc,af hd];split <;> simp only [aj,lZ] <;> omega
     ·simp only [ae hb,af hc];split <;> simp only [aj,lZ] <;> omega
    ·simp only [af hb];split <;> simp only [aj,lZ] <;> omega
 | _ :: _ :: _ :: _ :: _,_,h3=>simp at h3; omega
theorem zm {p:List Int} (h:0 < bg p):(p.length:Int)≤bg p:=by
 match p,h with
 | [],h=>simp [bg] at h
 | [a],h=>simp only [bg,aJ,aQ] at h⊢; omega
 | [a,b],h=>simp only [bg,aJ,aQ] at h⊢; split at h <;> rename_i g; rw [ae g]; omega; omega
 | [a,b,c],h=>simp only [bg,aJ,aQ] at h⊢; split at h <;> rename_i g; rw [ae g]; omega; omega
 | [a,b,c,d],h=>simp only [bg,aJ,aQ] at h⊢; split at h <;> rename_i g; rw [ae g]; omega; omega
 | _ :: _ :: _ :: _ :: _ :: _,h=>simp [bg] at h
theorem A5 (p:List Int):0≤bg p∧bg p≤4:=by
 match p with
 | []=>simp [bg]
 | [a]=>exact sU a
 | [a,b]=>simp only [bg]; split <;> first | exact sU a | omega
 | [a,b,c]=>simp only [bg]; split <;> first | exact sU a | omega
 | [a,b,c,d]=>simp only [bg]; split <;> omega
 | _ :: _ :: _ :: _ :: _ :: _=>simp [bg]
theorem rf {p:List Int} (hp:Bts p) (hl:p.length≤1000000):bQ p=some (bg p):=by
 have hb:=A5 p;unfold bQ;refine lv (n:=4) (fun i s=>s=((i+1:Nat):Int)∧∀m:Nat,1≤m→m≤i→bg p≠(m:Int)) (fun u=>match u with | .inl n=>n=bg p | .inr _=>bg p=0) (fun i s hi hI=>?_) (fun s hI=>?_) ⟨rfl,fun m h1 h2=>by omega⟩ (by decide) (fun u hu=>?_)
 ·obtain ⟨e,hI⟩:=hI;subst e;rw [ae (by simp; omega)];simp only [aZ,bsm];have key:∃t:Bool,(bI (decide ((p.length:Int)≥1) && decide ((p.length:Int)≤((i+1:Nat):Int))) ((eR p ((i+1:Nat):Int)).bind fun x_22=>some x_22))=some t∧(t=true↔bg p=((i+1:Nat):Int)):=by
   by_cases hc:1≤p.length∧p.length≤i+1
   ·rw [show (decide ((p.length:Int)≥1) && decide ((p.length:Int)≤((i+1:Nat):Int)))=true by simp; omega,gq]
    cases p with
    | nil=>simp at hc
    | cons a t=>
     rw [D3 hp (by omega) (by omega)];exact ⟨_,rfl,FB hp (by omega) (by omega) (by simpa using hc.2)⟩
   ·rw [show (decide ((p.length:Int)≥1) && decide ((p.length:Int)≤((i+1:Nat):Int)))=false by simp; omega,gt];refine ⟨false,rfl,?_⟩;simp only [aj,lZ];intro e;have:=zm (p:=p) (by omega);have h1:1≤p.length:=by
     cases p with
     | nil=>simp [bg] at e; omega
     | cons _ _=>simp
    omega
  obtain ⟨t,h1,h2⟩:=key;rw [h1];simp only [bsm]
  cases t with
  | true=>exact .inr ⟨_,rfl,(h2.1 rfl).symm⟩
  | false=>
   refine .inl ⟨_,rfl,by rw [aF (by omega)]; simp,fun m m1 m2=>?_⟩;by_cases hm:m≤i
   ·exact hI m m1 hm
   ·obtain rfl:m=i+1:=by omega
    exact fun e=>by have:=h2.2 e; cases this
 ·obtain ⟨e,hI⟩:=hI;subst e;refine ⟨.inr (),rfl,?_⟩;have e1:=hI 1 (by omega) (by omega);have e2:=hI 2 (by omega) (by omega);have e3:=hI 3 (by omega) (by omega);have e4:=hI 4 (by omega) (by omega);simp only;omega
 ·cases u with
  | inl n=>simp only at hu; rw [hu]
  | inr u=>simp only at hu; rw [hu]
theorem xQ {p:List Int} (h:0 < bg p) {i:Nat} (h1:1≤i) (h2:i≤p.length):bg (p.take i)=bg p:=by
 have key:∀d,d+1≤p.length→bg (p.take (p.length - d))=bg p:=by
  intro d
  induction d with
  | zero=>intro _; rw [nH,aC (az _)]
  | succ d ih=>
   intro hd;have e:=ih (by omega);rw [show p.length - d=(p.length - (d+1))+1 by omega,av (show p.length - (d+1) < p.length by omega)] at e;have hne:p.take (p.length - (d+1))≠ []:=fun q=>by
    have:=ii List.length q;rw [ay,aQ] at this;omega
   rw [Gt hne (by rw [e]; exact h),e]
 have:=key (p.length - i) (by omega)
 rwa [show p.length - (p.length - i)=i by omega] at this
theorem ye {p:List Int} (hp:Bts p) (hb:bg p=(p.length:Int)) (hne:p≠ []):eq p=some (vl p)∧0≤vl p∧vl p≤2000000000:=by
 have h4:=A5 p;have hlen:1≤p.length:=by
  cases p with
  | nil=>exact absurd rfl hne
  | cons _ _=>simp
 have hbd:∀i,1≤i→i < p.length→0≤vl (p.take i)∧vl (p.take i)≤131071:=fun i h1 h2=>by
  have hl:(p.take i).length=i:=by rw [ay]; omega
  refine Fb (.inr ?_) (fun x hx=>hp x (cO hx)) (fun e=>by rw [e] at hl; simp at hl; omega);rw [hl,xQ (by omega) h1 (by omega)];omega
 have hstep:∀i,1≤i→(h:i < p.length)→vl (p.take (i+1))=vl (p.take i) * 64+(p[i] - 128):=fun i h1 h=>by
  rw [av h,Av];intro e;have:=ii List.length e;rw [ay,aQ] at this;omega
 have h0:∀a t,p=a :: t→vl (p.take 1)=a - mk p.length:=fun a t e=>by
  have hk:ld a=(p.length:Int):=by
   have:=xQ (p:=p) (by omega) (i:=1) (by omega) (by omega);rw [e,mw,eA] at this;rw [←hb,e,←this];rfl
  rw [e,mw,eA,←e];simp only [vl,List.foldl];unfold b0 mk
  repeat' split
  all_goals omega
 have hfin:0≤vl p∧vl p≤2000000000:=by
  by_cases h1:p.length=1
  ·obtain ⟨a,rfl⟩:∃a,p= [a]:=by
    match p,h1 with
    | [a],_=>exact ⟨a,rfl⟩
   have:=hp a (by simp);obtain ⟨a1,a2⟩:=this;simp only [bg,aJ,aQ] at hb;simp only [vl,List.foldl];unfold b0
   repeat' split
   all_goals omega
  ·have e:=hstep (p.length - 1) (by omega) (by omega);rw [show p.length - 1+1=p.length by omega,aC (az _)] at e;have b:=hbd (p.length - 1) (by omega) (by omega);have hx:=hp _ (aG (show p.length - 1 < p.length by omega));obtain ⟨x1,x2⟩:=hx;have ht:128≤p[p.length - 1]:=by
    have e2:p=p.take (p.length - 1)++ [p[p.length - 1]'(by omega)]:=by
     rw [←av (by omega),show p.length - 1+1=p.length by omega,aC (az _)]
    have hl:(p.take (p.length - 1)).length=p.length - 1:=by rw [ay]; omega
    obtain ⟨lo,hi,_,f2,f3,f4,f5⟩:=yG (h:=p.take (p.length - 1)) (by rw [hl,xQ (by omega) (by omega) (by omega)]; omega) (fun q=>by rw [q] at hl; simp at hl; omega) (p[p.length - 1]'(by omega));by_cases hr:lo≤p[p.length - 1]'(by omega)∧p[p.length - 1]'(by omega)≤hi
    ·omega
    ·have:=f5 hr;rw [←e2] at this;omega
   omega
 refine ⟨?_,hfin⟩;obtain ⟨m1,_,_,_⟩:=Fj (n:=p.length) hlen (by omega)
 cases hpe:p with
 | nil=>exact absurd hpe hne
 | cons a t=>
  rw [←hpe];have hmk:0≤mk p.length∧mk p.length≤240:=by unfold mk; repeat' split; all_goals omega
  have ha:=hp a (by rw [hpe]; simp);obtain ⟨a1,a2⟩:=ha;have hi0:idx p 0=some a:=by rw [hpe]; rfl
  unfold eq;rw [m1,hi0];simp only [bsm];rw [aF (n:=a) (by omega),aF (n:=a - mk p.length) (by omega)];refine lv (n:=p.length - 1) (fun i s=>s=(vl (p.take (i+1)),((i+1:Nat):Int))) (fun u=>u=vl p) (fun i s hi e=>?_) (fun s e=>?_) (by rw [h0 a t hpe]; rfl) (by omega) (fun u hu=>?_)
  ·subst e;have hx:=hp _ (aG (show i+1 < p.length by omega));obtain ⟨x1,x2⟩:=hx;have hv:=hbd (i+1) (by omega) (by omega);simp only;rw [ae (by simp; omega),bc (show i+1 < p.length by omega)];simp only [bsm];rw [aF (n:=p[i+1]) (by omega),aF (n:=vl (p.take (i+1)) * 64) (by omega),aF (n:=vl (p.take (i+1)) * 64+p[i+1]) (by omega),aF (n:=vl (p.take (i+1)) * 64+p[i+1] - 128) (by omega),er (show i+1 < p.length by omega) (by omega)];refine .inl ⟨_,rfl,?_⟩;rw [hstep (i+1) (by omega) (by omega)]
   congr 1
   omega
  ·subst e;refine ⟨_,by simp only; rw [af (by simp; omega)],?_⟩;rw [show p.length - 1+1=p.length by omega,aC (az _)]
  ·subst hu;rw [xd (by omega)]
theorem Bts.snoc {h:List Int} (hb:Bts h) {b:Int} (h1:Byt b):Bts (h++ [b]):=fun x hx=>by
 rcases List.mem_append.1 hx with hx | hx
 ·exact hb x hx
 ·rw [List.mem_singleton.1 hx]; exact h1
theorem wD {b:Int} (h:Byt b):dB [] b=some (rs0 b):=by
 have hb1:Bts ([]++ [b]):=Bts.snoc (fun x hx=>by simp at hx) h;have hl:=sU b;unfold dB;rw [cK (by simp)];simp only [bsm];rw [cK (by simp)];simp only [bsm];rw [rf (by simpa using hb1) (by simp)];simp only [bsm,aZ,ba,bg,aJ,aQ];unfold rs0;by_cases h1:1 < ld b
 ·rw [ae (by simp; omega),ae h1]
 ·rw [af (by simp; omega),af h1];by_cases h2:ld b=1
  ·rw [ae (by simp; omega),ae h2,(ye (p:=[b]) (by simpa using hb1) (by simpa [bg] using h2) (by simp)).1];simp only [bsm,vl,List.foldl,b0];rw [af (by omega),af (by omega),af (by omega)]
  ·rw [af (by simp; omega),af h2];simp
theorem D2 {h:List Int} (hh:Hh h) (hb:Bts h) {b:Int} (h1:Byt b):ge h b=some (jh h b):=by
 have hb1:=hb.snoc h1;have h3:=hh.len;unfold ge;rw [cK (by simp; omega),ba];simp only [bsm];rw [cK (by simp; omega)];simp only [bsm];rw [rf hb1 (by simp; omega)];simp only [bsm,aZ];by_cases hne:h= []
 ·subst hne;have:=wD h1;unfold dB at this;rw [tJ,←this,cK (by simp)];simp only [bsm];rw [cK (by simp)];simp only [bsm];rw [rf (by simpa using hb1) (by simp)];simp only [bsm,aZ,ba,aQ];rfl
 ·unfold jh;rw [af hne];have hl:(h++ [b]).length=h.length+1:=by simp
  rw [hl];by_cases g1:(h.length:Int)+1 < bg (h++ [b])
  ·rw [ae (by simp; omega),ae g1]
  ·rw [af (by simp; omega),af g1];by_cases g2:0 < bg (h++ [b])
   ·rw [ae (by simpa using g2),ae g2];have hw:bg (h++ [b])=((h++ [b]).length:Int):=by
     have:=zm g2;rw [hl] at this⊢;omega
    rw [(ye hb1 hw (by simp)).1];rfl
   ·rw [af (by simpa using g2),af g2,af (by simp; exact hne),wD h1];have hrl:(rs0 b).1.length≤1:=by
     unfold rs0;split
     ·simp
     ·split <;> simp
    simp only [bsm];rw [cK (by simp; omega)];rfl
theorem tK (h:List Int) (b:Int):(jh h b).1.length≤2:=by
 have hrl:(rs0 b).1.length≤1:=by
  unfold rs0;split
  ·simp
  ·split <;> simp
 unfold jh;split
 ·omega
 ·split
  ·simp
  ·split
   ·simp
   ·simp; omega
theorem wK (h p:List Int):(bv h p).1.length≤2 * p.length:=by
 induction p generalizing h with
 | nil=>simp [bv]
 | cons b p ih=>
  have:=ih (jh h b).2;have h2:=tK h b;simp only [bv,aA,aJ];omega
theorem Bq {h:List Int} (hb:Bts h) {b:Int} (h1:Byt b):Bts (jh h b).2:=by
 have h0:Bts (rs0 b).2:=by
  unfold rs0;split
  ·intro x hx; rw [List.mem_singleton.1 hx]; exact h1
  ·split <;> (intro x hx; simp at hx)
 unfold jh;split
 ·exact h0
 ·split
  ·exact hb.snoc h1
  ·split
   ·intro x hx; simp at hx
   ·exact h0
theorem tL {h p:List Int} (hb:Bts h) (hp:Bts p):Bts (bv h p).2:=by
 induction p generalizing h with
 | nil=>exact hb
 | cons b p ih=>exact ih (Bq hb (hp b (by simp))) (fun x hx=>hp x (vZ _ hx))
theorem AW {h p:List Int} (hh:Hh h) (hb:Bts h) (hp:Bts p) (hl:p.length≤1000000):dL h p=some (bv h p):=by
 unfold dL;refine lv (n:=p.length) (fun i s=>s=((bv h (p.take i)).2,(bv h (p.take i)).1,(i:Int))) (fun u=>u=((bv h p).2,(bv h p).1)) (fun i s hi e=>?_) (fun s e=>?_) rfl (by omega) (fun u hu=>?_)
 ·subst e;have hpt:Bts (p.take i):=fun x hx=>hp x (cO hx);simp only;rw [ae (dlt hi),bc hi,er hi (by omega)];simp only [bsm];rw [D2 (hh.feed _) (tL hb hpt) (hp _ (aG hi))];simp only [bsm];have h1:=wK h (p.take i);have h2:=tK (bv h (p.take i)).2 p[i];rw [ay] at h1;rw [cK (by omega)];refine .inl ⟨_,rfl,?_⟩;rw [av hi,pg]
 ·subst e;refine ⟨_,by simp only; rw [af (by simp)],?_⟩;rw [aC (az _)]
 ·subst hu;rfl
theorem Hh.nil:Hh []:= .inl rfl
theorem Bts.nil:Bts []:=fun x hx=>by simp at hx
def ux (c:List Int):List Int:=(bv [] c).1++(if (bv [] c).2= [] then [] else [65533])
theorem GK.take {c:List Int} {k:Nat} (h:GK c k):GK (c.take k) k:=by
  have hle:=h.le;refine ⟨by rw [ay]; omega,fun m h1 h2=>?_,fun hk=>?_,fun hk=>?_,fun hk _=> .inl (by rw [ay]; omega)⟩
  · rw [fg,cp (by omega)]
    exact h.lt m h1 h2
  · subst hk
    simp [bg]
  · rw [fg,Nat.min_self]
    exact h.p hk
theorem wO {c:List Int} {k:Nat} (h:GK c k) (hk:0 < k):(bg (c.take k)=k∧bv [] (c.take k)=([vl (c.take k)],[]))∨((k:Int) < bg (c.take k)∧bv [] (c.take k)=([],c.take k)):=by
  have hle:=h.le;have hl:(c.take k).length=k:=by rw [ay]; omega
  have hp:=h.p hk;have hge:=zm hp;rw [hl] at hge;have ht:=h.take;have htt:(c.take k).take k=c.take k:=by rw [fg,Nat.min_self]
  by_cases hw:bg (c.take k)=k
  · refine .inl ⟨hw,?_⟩
    have:=vn ht hk (by rw [htt]; exact hw);rw [htt,gg (by omega)] at this;exact this
  · refine .inr ⟨by omega,?_⟩
    have ht':GK (c.take k) (c.take k).length:=by rw [hl]; exact ht
    exact yA ht' (by omega) (by rw [hl]; omega)
theorem Ba {c:List Int} {k:Nat} (h:GK c k) (hc:c≠ []):ux c=(if 0 < k then (if bg (c.take k)=k then vl (c.take k) else 65533) else 65533) :: ux (c.drop (max k 1)):=by
  by_cases hk:0 < k
  · rw [ae hk,show max k 1=k by omega]
    rcases wO h hk with ⟨hw,_⟩ | ⟨hw,_⟩
    · rw [ae hw]
      have:=vn h hk hw;unfold ux;rw [this];rfl
    · rw [af (by omega)]
      by_cases hlt:k < c.length
      · have:=BF h hk hw hlt
        unfold ux;rw [this];rfl
      · have hkl:k=c.length:=by have:=h.le; omega
        subst hkl;rw [aC (az _)] at hw;have:=yA h hk hw;unfold ux;rw [this,af hc,gg (az _)];rfl
  · rw [af hk,show max k 1=1 by omega]
    have:=BG hc (h.z (by omega));unfold ux;rw [this];rfl
theorem BH {p:List Int} (hp:Bts p) (hl:p.length≤1000000) {a:Nat} (ha:a < p.length):∃k:Nat,GK (p.drop a) k∧cE (σ:=Int) (τ:=Int) (((p.length:Int) - (w64 ((a:Int)+0))).toNat+1) (fun s_15=>
 (bI (decide ((w64 ((a:Int)+s_15)) < (p.length:Int))) ((slc p (a:Int) (w64 ((w64 ((a:Int)+s_15))+1))).bind fun x_30=>
 (bQ x_30).bind fun x_31=>
 some (decide (x_31 > 0)))).bind fun d_22=>
 if d_22=true then
 (slc p (a:Int) (w64 ((a:Int)+(w64 (s_15+1))))).bind fun x_43=>
 (bQ x_43).bind fun x_44=>
 if (x_44==(w64 (s_15+1)))=true then
 some (.inr ((w64 (s_15+1))))
 else
 some (.inl ((w64 (s_15+1))))
 else
 some (.inr (s_15))) (0)=some (k:Int):=by
  have hcl:(p.drop a).length=p.length - a:=by simp
  have hbt:∀i,Bts ((p.drop a).take i):=fun i x hx=>hp x (fD (cO hx));obtain ⟨t,h1,h2⟩:=lG (σ:=Int) (τ:=Int) (step:=fun s_15=>
 (bI (decide ((w64 ((a:Int)+s_15)) < (p.length:Int))) ((slc p (a:Int) (w64 ((w64 ((a:Int)+s_15))+1))).bind fun x_30=>
 (bQ x_30).bind fun x_31=>
 some (decide (x_31 > 0)))).bind fun d_22=>
 if d_22=true then
 (slc p (a:Int) (w64 ((a:Int)+(w64 (s_15+1))))).bind fun x_43=>
 (bQ x_43).bind fun x_44=>
 if (x_44==(w64 (s_15+1)))=true then
 some (.inr ((w64 (s_15+1))))
 else
 some (.inl ((w64 (s_15+1))))
 else
 some (.inr (s_15))) (fun s=>∃k:Nat,s=(k:Int)∧k≤p.length - a∧∀m,0 < m→m≤k→(m:Int) < bg ((p.drop a).take m)) (fun s=>p.length - a - s.toNat) (fun t=>∃k:Nat,t=(k:Int)∧GK (p.drop a) k)
    (fun s hs=>by
      obtain ⟨k,rfl,hk,hI⟩:=hs;have e1:w64 ((a:Int)+(k:Int))=((a+k:Nat):Int):=by rw [aF (by omega)]; simp
      have e2:w64 (((a+k:Nat):Int)+1)=((a+k+1:Nat):Int):=by rw [aF (by omega)]; simp
      have e3:w64 ((k:Int)+1)=((k+1:Nat):Int):=by rw [aF (by omega)]; simp
      have e4:w64 ((a:Int)+((k+1:Nat):Int))=((a+k+1:Nat):Int):=by rw [aF (by omega)]; simp; omega
      simp only [e1,e2,e3,e4];by_cases hlt:k < p.length - a
      · have hs:=nU (xs:=p) (i:=a) (j:=a+k+1) (by omega) (by omega)
        rw [show a+k+1 - a=k+1 by omega] at hs;rw [show decide (((a+k:Nat):Int) < (p.length:Int))=true by simp; omega,gq,hs];simp only [bsm];rw [rf (hbt _) (by simp; omega)];simp only [bsm];have hge:0 < bg ((p.drop a).take (k+1))→((k+1:Nat):Int)≤bg ((p.drop a).take (k+1)):=fun h=>by
          have:=zm h;rw [ay,hcl] at this;omega
        by_cases hb:0 < bg ((p.drop a).take (k+1))
        · rw [ae (by simpa using hb)]
          by_cases hw:bg ((p.drop a).take (k+1))=((k+1:Nat):Int)
          · rw [ae (by simpa using hw)]
            refine .inr ⟨_,rfl,k+1,rfl,by omega,fun m m1 m2=>hI m m1 (by omega),fun h=>by omega,fun _=>hb,fun _ h=>by omega⟩
          · rw [af (by simpa using hw)]
            refine .inl ⟨_,rfl,⟨k+1,rfl,by omega,fun m m1 m2=>?_⟩,by simp; omega⟩;by_cases hm:m≤k
            · exact hI m m1 hm
            · obtain rfl:m=k+1:=by omega
              have:=hge hb;omega
        · rw [af (by simpa using hb)]
          have hz:bg ((p.drop a).take (k+1))=0:=by have:=A5 ((p.drop a).take (k+1)); omega
          refine .inr ⟨_,rfl,k,rfl,by omega,fun m m1 m2=>hI m m1 (by omega),fun h=>by subst h; exact hz,fun h=>by have:=hI k h (az _); omega,fun _ _=> .inr hz⟩
      · rw [show decide (((a+k:Nat):Int) < (p.length:Int))=false by simp; omega,gt]
        simp only [bsm,aj,aU];have hkk:k=(p.drop a).length:=by omega
        refine .inr ⟨_,rfl,k,rfl,by omega,fun m m1 m2=>hI m m1 (by omega),fun h=>by omega,fun h=>by have:=hI k h (az _); omega,fun _ _=> .inl hkk⟩)
    (((p.length:Int) - (w64 ((a:Int)+0))).toNat+1) 0 ⟨0,rfl,cG _,fun m m1 m2=>by omega⟩ (by rw [aF (by omega)]; omega)
  obtain ⟨k,rfl,hk⟩:=h2;exact ⟨k,hk,h1⟩
theorem Cl:ux []= []:=rfl
theorem Gy {p:List Int} (hp:Bts p) (hl:p.length≤1000000):∃l,gG p=some l∧l.map (·.R)=ux p∧l.length≤p.length:=by
  unfold gG;refine wU (fun s=>∃a:Nat,s.2=(a:Int)∧a≤p.length∧s.1.length≤a∧s.1.map (·.R)++ux (p.drop a)=ux p) (fun s=>p.length - s.2.toNat) (fun t=>t.map (·.R)=ux p∧t.length≤p.length) (fun s hs=>?_) ⟨0,rfl,cG _,az _,rfl⟩ (by simp) (fun t ht=>⟨t,rfl,ht⟩);obtain ⟨out,n⟩:=s;obtain ⟨a,e,ha,ho,hI⟩:=hs;simp only at e ho hI;subst e;simp only;by_cases hlt:a < p.length
  · rw [ae (dlt hlt)]
    obtain ⟨k,hk,hloop⟩:=BH hp hl hlt;rw [hloop];simp only [bsm];have hcl:(p.drop a).length=p.length - a:=by simp
    have hkle:=hk.le;rw [hcl] at hkle;have htp:=Ba hk (fun e=>by have:=ii List.length e; rw [hcl] at this; simp at this; omega);have hz:∃kn bad,(if (decide ((k:Int) > 0))=true then
        (slc p (a:Int) (w64 ((a:Int)+(k:Int)))).bind fun x_66=>
        (dL ([]:List Int) x_66).bind fun x_67=>
        if ((x_67.2.length:Int)==0)=true then
        (idx x_67.1 0).bind fun x_89=>
        (some (x_89,(k:Int),(w64 ((a:Int)+(k:Int))),false):Option (Int×Int×Int×Bool))
        else
        (some (65533,(aE (k:Int) 1),(aB (w64 ((w64 ((a:Int)+(k:Int)))+1)) (p.length:Int)),true):Option (Int×Int×Int×Bool))
        else
        (some (65533,(aE (k:Int) 1),(w64 ((a:Int)+1)),true):Option (Int×Int×Int×Bool)))=some ((if 0 < k then (if bg ((p.drop a).take k)=k then vl ((p.drop a).take k) else 65533) else 65533),((max k 1:Nat):Int),kn,bad):=by
      by_cases h0:0 < k
      · rw [ae (by simpa using h0),ae h0]
        have e1:w64 ((a:Int)+(k:Int))=((a+k:Nat):Int):=by rw [aF (by omega)]; simp
        have hs:=nU (xs:=p) (i:=a) (j:=a+k) (by omega) (by omega);rw [show a+k - a=k by omega] at hs;rw [e1,hs];simp only [bsm];rw [AW Hh.nil Bts.nil (fun x hx=>hp x (fD (cO hx))) (by simp; omega)];simp only [bsm];rcases wO hk h0 with ⟨hw,hf⟩ | ⟨hw,hf⟩
        · rw [hf,ae (by simp),ae hw]
          exact ⟨_,_,by rw [show max k 1=k by omega]; rfl⟩
        · rw [hf,af (by simp; omega),af (by omega)]
          exact ⟨_,_,by rw [eX,show max (k:Int) 1=((max k 1:Nat):Int) by omega]⟩
      · rw [af (by simpa using h0),af h0]
        exact ⟨_,_,by rw [eX,show max (k:Int) 1=((max k 1:Nat):Int) by omega]⟩
    obtain ⟨kn,bad,hz⟩:=hz;rw [hz];simp only [bsm];rw [cK (by simp; omega)];simp only [bsm];have e5:w64 ((a:Int)+((max k 1:Nat):Int))=((a+max k 1:Nat):Int):=by rw [aF (by omega)]; simp
    rw [e5];refine .inl ⟨_,rfl,⟨a+max k 1,rfl,by omega,by simp; omega,?_⟩,by simp only; omega⟩;simp only [bG,sx,GD,aK,cm,ba];rw [←hI,htp,de]
  · rw [af (by simp; omega)]
    refine .inr ⟨_,rfl,?_,by omega⟩;rw [gg (by omega),Cl,eC] at hI;exact hI
end Go.Proofs.YthokmpbbkpjhbaaGreatDoor
namespace Go.Proofs.YthokmpbbkpjhbaaGreatDoor
open Go Go.Lt
variable {s C:Sto} {f k g W H:Nat} {q P:aa} {ks:List Nat}
def Sto.sf (s:Sto) (f:Nat) (x:bB):Sto:={ s with feed_Feeder:=s.feed_Feeder.set f x}
theorem qs {x:bB} (h:f < s.feed_Feeder.length):s.set_feed_Feeder f x=some (s.sf f x):=by
 unfold Sto.set_feed_Feeder;rw [ae h];rfl
theorem tF {x:bB} (h:f < s.feed_Feeder.length):(s.sf f x).feed_Feeder[f]? = some x:=by simp [Sto.sf,h]
theorem Ff (s:Sto) (f:Nat) (x y:bB):(s.sf f x).sf f y=s.sf f y:=by simp [Sto.sf]
theorem xj (s:Sto) (f:Nat) (x:bB):(s.sf f x).feed_Feeder.length=s.feed_Feeder.length:=by simp [Sto.sf]
theorem Pv.sf (h:Pv s s k g W q ks) (x:bB):Pv (s.sf f x) (s.sf f x) k g W q ks:=
 ⟨h.p,⟨h.g.g,h.g.r,h.g.h1,h.g.h2,h.g.w1,h.g.w2⟩,h.nd,h.l,rfl,h.f.rgp ⟨rfl,rfl,rfl⟩ ⟨rfl,rfl,rfl⟩⟩
theorem Wc.sf {j:Nat} {c:ai} {y:bz} {t:List Int} {n:Int} (h:Wc s j c y t n) (x:bB):Wc (s.sf f x) j c y t n:=⟨h.x⟩
def FS (C:Sto) (f j:Nat):Prop:=∃x,C.feed_Feeder[f]? = some x∧x.open_=some j
structure Fz (C s:Sto) (f:Nat) (op:Option Nat):Prop where
 fl:C.feed_Feeder.length≤s.feed_Feeder.length
 ff:∀j,j < C.feed_Feeder.length→j≠f→s.feed_Feeder[j]? = C.feed_Feeder[j]?
 wl:C.widen_Cluster.length≤s.widen_Cluster.length
 wc:∀j,j < C.widen_Cluster.length→¬FS C f j→s.widen_Cluster[j]? = C.widen_Cluster[j]?
 oc:∀j,op=some j→FS C f j∨C.widen_Cluster.length≤j
 sc:s.screen_Screen=C.screen_Screen
theorem ph {a b:Sto} (h:a.oth=b.oth):a.feed_Feeder=b.feed_Feeder:=by
 have:=ii Sto.feed_Feeder h;exact this
theorem xu {a b:Sto} (h:a.oth=b.oth):a.screen_Screen=b.screen_Screen:=by
 have:=ii Sto.screen_Screen h;exact this
theorem Fz.oth {s':Sto} {op:Option Nat} (h:Fz C s f op) (e:s'.oth=s.oth):Fz C s' f op:=by
 refine ⟨by rw [ph e]; exact h.fl,by rw [ph e]; exact h.ff,by rw [tR e]; exact h.wl,by rw [tR e]; exact h.wc,h.oc,by rw [xu e]; exact h.sc⟩
theorem Fz.sf {op:Option Nat} (h:Fz C s f op) (x:bB) (op':Option Nat) (ho:∀j,op'=some j→FS C f j∨C.widen_Cluster.length≤j):Fz C (s.sf f x) f op':=
 ⟨by rw [xj]; exact h.fl,fun j a b=>by simp only [Sto.sf]; rw [aY (rS b)]; exact h.ff j a b,h.wl,h.wc,ho,h.sc⟩
theorem Fz.more {op:Option Nat} (h:Fz C s f op) {s':Sto} {z:bb} (e:s'.oth=(s.add_widen_Cluster z).oth):Fz C s' f op:=by
 have e1:s'.feed_Feeder=s.feed_Feeder:=(ph e).trans rfl;have e2:s'.widen_Cluster=s.widen_Cluster++ [z]:=(tR e).trans rfl;have e3:s'.screen_Screen=s.screen_Screen:=(xu e).trans rfl;have hl:=h.wl;exact ⟨by rw [e1]; exact h.fl,by rw [e1]; exact h.ff,by rw [e2,aA]; omega,fun j a b=>by rw [e2,aI (by omega)]; exact h.wc j a b,h.oc,by rw [e3]; exact h.sc⟩
theorem Fz.grow {j:Nat} (h:Fz C s f (some j)) {s':Sto} {z:bb} (e:s'.oth=(s.sc j z).oth):Fz C s' f (some j):=by
 have e1:s'.feed_Feeder=s.feed_Feeder:=(ph e).trans rfl;have e2:s'.widen_Cluster=s.widen_Cluster.set j z:=(tR e).trans rfl;have e3:s'.screen_Screen=s.screen_Screen:=(xu e).trans rfl;refine ⟨by rw [e1]; exact h.fl,by rw [e1]; exact h.ff,by rw [e2,cq]; exact h.wl,fun i a b=>?_,h.oc,by rw [e3]; exact h.sc⟩;rw [e2,aY ?_]
 ·exact h.wc i a b
 ·rintro rfl;rcases h.oc j rfl with q | q
  ·exact b q
  ·omega
def yH (G:List Int):Bool:=match G.getLast? with | none=>true | some x=>sil x
theorem lu (G:List Int) (r:Int):yH (G++ [r])=sil r:=by simp [yH]
def pa (G:List Int):Sg:=if yH G=true then sg0 else sgF (G.map pr)
structure Op (s:Sto) (k g W H:Nat) (P:aa) (G:List Int) (q:aa) (j:Nat):Prop where
 x:∃q0 c C0 s0 ks0 cs0 cl,cls pj pr G=cs0++ [cl]∧cl≠ []∧sil (cl.headD 0)=false∧fo rX P cs0=some q0∧Pv C0 s0 k g W q0 ks0∧ks0.length=H∧
  Wc s j c (gf (cl.take 16) ((cl.take 16).map pr)) (cl.take 16) (w16 cl)∧aW q0 (w16 cl) (cl.take 16)=some (q,c)
structure Fd (C s:Sto) (f k g W H:Nat) (P:aa) (G h:List Int) (q:aa) (ks:List Nat) (op:Option Nat):Prop where
 v:Pv s s k g W q ks
 fr:Fr C s k g ks
 fz:Fz C s f op
 n:ks.length=H
 hd:Hd q.At W H
 l:fo rX P (cls pj pr G)=some q
 gv:∀x∈G,vld x=true
 d:∃d,s.feed_Feeder[f]? = some ⟨some k,d,sgB (pa G),op⟩∧Dv d h
 o1:yH G=true→op=none
 o2:yH G=false→∃j,op=some j∧Op s k g W H P G q j
theorem Ci {x:Int} (h:vld x=true):r32 x:=by
 unfold vld at h;unfold r32;simp only [aw,an] at h;omega
theorem EU {q q':aa} {r:Int} {b:Bool} (h:cw q r=some (q',b)):Ab q r=some q':=by
 unfold Ab;rw [h];rfl
theorem DZ (c:List Int):(c.take 16).length≤16:=by rw [ay]; omega
theorem ur (t:List Int) (r:Int):gf (t++ [r]) ((t++ [r]).map pr)=gz (gf t (t.map pr)) r (pr r):=by
 rw [uP (by simp) r];have e:((t++ [r]).map pr).take t.length=t.map pr:=by simp
 rw [←EL t ((t++ [r]).map pr) (az _),e];simp
theorem Dl {r:Int} (h:vld r=true):fM r=r:=by unfold fM; rw [ae h]
theorem CT {C s:Sto} {k g W H:Nat} {q0 q:aa} {ks:List Nat} (h:Pv C s k g W q0 ks) (hn:ks.length=H) {n:Int} {t:List Int} (ht:t.length≤1000000) {c:ai} (hp:aW q0 n t=some (q,c)):Hd q.At W H:=by
 obtain ⟨s',q',ks',i,a,_,_,a2,_,_,a5,_⟩:=zP h n t ht;rw [hp] at a2;cases a2;rw [←hn];exact a5
theorem Dr {G h:List Int} {op:Option Nat} (F:Fd C s f k g W H P G h q ks op) {r:Int} (hr:vld r=true):∃s' q' ks' op',gH s (some f) r=some s'∧Fd C s' f k g W H P (G++ [r]) h q' ks' op':=by
 obtain ⟨d,hd,hdv⟩:=F.d;have hf:=cz hd;have hgv:∀x∈G++ [r],vld x=true:=fun x hx=>by
  rcases List.mem_append.1 hx with hx | hx
  ·exact F.gv x hx
  ·rw [List.mem_singleton.1 hx]; exact hr
 have hcs:=tj pj pr G r;unfold gH;rw [Cs];simp only [bsm]
 cases hs:sil r with
 | true=>
  simp only [bm];unfold da;simp only [bL,eB,bm,bsm,hd];rw [qs hf];simp only [bsm,wG];rw [qs (by rw [xj]; exact hf),Ff];simp only [bsm];rw [tF hf];simp only [bsm];obtain ⟨s',q',ks',a1,a2,a3,hks,hcd⟩:=EW (F.v.sf (f:=f) ⟨some k,d,sgB sg0,none⟩) r;rw [a1];have hdo:=EU a2;have hf1:Fr C (s.sf f ⟨some k,d,sgB sg0,none⟩) k g ks:=F.fr.rgp (Rgp.self _) ⟨rfl,rfl,rfl⟩;have hv1:=F.v.sf (f:=f) ⟨some k,d,sgB sg0,none⟩;refine ⟨s',q',ks',none,rfl,⟨a3.self,hf1.trans hv1.oG hv1.oR a3.f,(F.fz.sf ⟨some k,d,sgB sg0,none⟩ none (fun j e=>by cases e)).oth a3.o,by rw [hks]; exact F.n,by rw [←F.n]; exact hcd (by rw [F.n]; exact F.hd),?_,hgv,⟨d,?_,hdv⟩,fun _=>rfl,fun e=>?_⟩⟩
  ·
   rw [hcs];split
   ·rename_i hj
    obtain ⟨l0,x,rfl,hx⟩:=Ct.yes hs hj;obtain ⟨cs0,c,ec⟩:=jB ((qz (pj:=pj) (pr:=pr) (l0++ [x])).2.2 (by simp));obtain ⟨c',rfl⟩:=zc ec;rw [ec,oV];have hall:=Ct.all (l0++ [x]) (c'++ [x]) (by rw [ec]; simp);have hal:∀y∈c'++ [x],sil y=true:=by
     rcases hall with q | q
     ·exact q
     ·have:=q x (by simp); rw [hx] at this; cases this
    have hl:=F.l;rw [ec,pm] at hl;rw [pm]
    cases hq0:fo rX P cs0 with
    | none=>rw [hq0] at hl; cases hl
    | some q0=>
     rw [hq0] at hl;simp only [bsm] at hl⊢;obtain ⟨a,t,ea⟩:∃a t,c'++ [x]=a :: t:=by
      cases h:c'++ [x] with
      | nil=>simp at h
      | cons a t=>exact ⟨a,t,rfl⟩
     have ha:sil a=true:=hal a (by rw [ea]; simp);rw [ea,sV ha] at hl;rw [ea,cm,sV ha,←cm,pm,hl];exact hdo
   ·rw [pm,F.l];simp only [bsm];rw [sV hs];show (Ab q r).bind (fun b=>some b)=_;rw [hdo];rfl
  ·have:pa (G++ [r])=sg0:=by unfold pa; rw [lu,ae hs]
   rw [this,ph a3.o];exact tF hf
  ·rw [lu,hs] at e;cases e
 | false=>
  simp only [aj,aU];rw [Fx r (Ci hr)];simp only [bsm,hd];rw [CA];simp only [bsm];rw [qs hf];simp only [bsm];have hsj:sgJ pj (pa G) (pr r)=jn pj pr G r∧sgN (pa G) (pr r)=sgF ((G++ [r]).map pr):=by
   unfold pa;rw [bG,xX,uX]
   cases hL:yH G with
   | false=>simp only [aj,aU]; exact ⟨rfl,trivial⟩
   | true=>
    simp only [bm];by_cases hG:G= []
    ·subst hG; exact ⟨rfl,rfl⟩
    ·obtain ⟨G0,x,rfl⟩:=jB hG;rw [lu] at hL;rw [Ct.no G0 hL hs,Ct.new G0 hL];exact ⟨rfl,rfl⟩
  rw [hsj.1,hsj.2];have hsg:pa (G++ [r])=sgF ((G++ [r]).map pr):=by unfold pa; rw [lu,hs]; rfl
  rw [←hsg];have hv1:=F.v.sf (f:=f) ⟨some k,d,sgB (pa (G++ [r])),op⟩;have hf1:Fr C (s.sf f ⟨some k,d,sgB (pa (G++ [r])),op⟩) k g ks:=F.fr.rgp (Rgp.self _) ⟨rfl,rfl,rfl⟩;have hz1:=F.fz.sf ⟨some k,d,sgB (pa (G++ [r])),op⟩ op F.fz.oc;have hg1:(s.sf f ⟨some k,d,sgB (pa (G++ [r])),op⟩).feed_Feeder[f]? = some ⟨some k,d,sgB (pa (G++ [r])),op⟩:=tF hf;simp only [aZ,bsm];rw [hg1];simp only [bsm];have hfix:=Dl hr
  cases hj:jn pj pr G r with
  | true=>
   have hL:yH G=false:=by
    cases hL:yH G with
    | false=>rfl
    | true=>
     obtain ⟨G0,x,rfl⟩:=jB (wT pj pr hj);rw [lu] at hL;rw [Ct.no G0 hL hs] at hj;cases hj
   obtain ⟨j,rfl,⟨q0,c,C0,s0,ks0,cs0,cl,ec,hcne,hcs0,hq0,hp0,hn0,hw,hput⟩⟩:=F.o2 hL;simp only [bL,eB,Bool.and_self,bm];have hcs2:cls pj pr (G++ [r])=cs0++ [cl++ [r]]:=by rw [hcs,ae hj,ec,oV]
   have hclv:∀x∈cl.take 16,vld x=true:=fun x hx=>F.gv x (by
    rw [←(qz (pj:=pj) (pr:=pr) G).1,ec];exact List.mem_flatten.2 ⟨cl,by simp,cO hx⟩)
   have hhd:sil ((cl++ [r]).headD 0)=false:=by
    cases cl with
    | nil=>exact absurd rfl hcne
    | cons a t=>exact hcs0
   have hw16:w16 cl=wz (gf (cl.take 16) ((cl.take 16).map pr)):=rfl;rw [hw16] at hw hput;have on:On C (s.sf f ⟨some k,d,sgB (pa (G++ [r])),some j⟩) k g W H j q0 (gf (cl.take 16) ((cl.take 16).map pr)) (cl.take 16) q c ks:=⟨hv1,hf1,hw.sf _,F.n,hput⟩;have hlayc:∀q2 c2,aW q0 (w16 (cl++ [r])) ((cl++ [r]).take 16)=some (q2,c2)→fo rX P (cls pj pr (G++ [r]))=some q2:=fun q2 c2 e=>by
    rw [hcs2,pm,hq0];simp only [bsm]
    cases hcc:cl++ [r] with
    | nil=>simp at hcc
    | cons a t=>
     rw [hcc] at e hhd;rw [vq (by simpa using hhd),e];rfl
   have hlen:cl.length < 16∨16≤cl.length:=by omega
   have hcl1:1≤cl.length:=by
    cases cl with
    | nil=>exact absurd rfl hcne
    | cons _ _=>simp
   rcases hlen with hlt | hge
   ·have et:cl.take 16=cl:=aC (by omega);have et2:(cl++ [r]).take 16=cl++ [r]:=aC (by simp; omega);rw [et] at on hclv;obtain ⟨s',q',c',ks',b1,b2,z,b3⟩:=ED hp0 hn0 on hcl1 hlt hclv r (pr r);rw [b1];simp only [bsm];rw [hfix,←ur] at b2;have hw2:w16 (cl++ [r])=wz (gf (cl++ [r]) ((cl++ [r]).map pr)):=by unfold w16; rw [et2]
    refine ⟨s',q',ks',some j,rfl,⟨b2.v,b2.f,hz1.grow b3,b2.n,CT hp0 hn0 (DZ cl |> fun _=>by simp; omega) b2.p,hlayc q' c' (by rw [hw2,et2]; exact b2.p),hgv,⟨d,?_,hdv⟩,fun e=>?_,fun _=>⟨j,rfl,⟨q0,c',C0,s0,ks0,cs0,cl++ [r],hcs2,by simp,hhd,hq0,hp0,hn0,?_,by rw [hw2,et2]; exact b2.p⟩⟩⟩⟩
    ·rw [show s'.feed_Feeder=(s.sf f ⟨some k,d,sgB (pa (G++ [r])),some j⟩).feed_Feeder from (ph b3).trans rfl];exact hg1
    ·rw [lu,hs] at e; cases e
    ·rw [hw2,et2];exact b2.w
   ·have hfl:(cl.take 16).length=16:=by rw [ay]; omega
    have et2:(cl++ [r]).take 16=cl.take 16:=cX hge;have hw2:w16 (cl++ [r])=w16 cl:=by unfold w16; rw [et2]
    rw [BN on hfl r (pr r)];simp only [bsm];refine ⟨_,q,ks,some j,rfl,⟨hv1,hf1,hz1,F.n,F.hd,hlayc q c (by rw [hw2,et2]; exact hput),hgv,⟨d,hg1,hdv⟩,fun e=>?_,fun _=>⟨j,rfl,⟨q0,c,C0,s0,ks0,cs0,cl++ [r],hcs2,by simp,hhd,hq0,hp0,hn0,?_,by rw [hw2,et2]; exact hput⟩⟩⟩⟩
    ·rw [lu,hs] at e; cases e
    ·rw [hw2,et2];exact hw.sf _
  | false=>
   simp only [lY,aj,aU];obtain ⟨s2,q2,c2,ks2,b1,b2,z,b3⟩:=DH hv1 r (pr r);rw [b1];simp only [bsm];have e1:s2.feed_Feeder=(s.sf f ⟨some k,d,sgB (pa (G++ [r])),op⟩).feed_Feeder:=(ph b3).trans rfl;rw [e1,hg1];simp only [bsm];have hf2:f < s2.feed_Feeder.length:=by rw [e1,xj]; exact hf
   rw [qs hf2];rw [hfix] at b2;have hgf:gz ⟨false,false,false⟩ r (pr r)=gf [r] ([r].map pr):=by
    have:=ur [] r;simp only [ba] at this;rw [this];rfl
   rw [hgf] at b2;have hcs2:cls pj pr (G++ [r])=cls pj pr G++ [[r]]:=by rw [hcs,hj]; rfl
   have hlay:fo rX P (cls pj pr (G++ [r]))=some q2:=by
    rw [hcs2,pm,F.l];simp only [bsm];rw [vq hs];show (aW q (wz (gf [r] ([r].map pr))) [r]).map (·.1)=some q2;rw [b2.p];rfl
   refine ⟨_,q2,ks2,some (s.sf f ⟨some k,d,sgB (pa (G++ [r])),op⟩).widen_Cluster.length,rfl,⟨b2.v.sf _,?_,(hz1.more b3).sf _ _ (fun j e=>?_),b2.n.trans F.n,CT F.v F.n (by simp) b2.p,hlay,hgv,⟨d,tF hf2,hdv⟩,fun e=>?_,fun _=>⟨_,rfl,⟨q,c2,_,_,ks,cls pj pr G,[r],hcs2,by simp,hs,F.l,F.v,F.n,b2.w.sf _,b2.p⟩⟩⟩⟩
   ·exact (hf1.trans hv1.oG hv1.oR b2.f).rgp (Rgp.self _) ⟨rfl,rfl,rfl⟩
   ·cases e;exact .inr hz1.wl
   ·rw [lu,hs] at e; cases e
end Go.Proofs.YthokmpbbkpjhbaaGreatDoor
namespace Go.Proofs.YthokmpbbkpjhbaaGreatDoor
open Go Go.Lt
variable {s C:Sto} {f k g W H:Nat} {q P:aa} {ks:List Nat} {op:Option Nat}
theorem Fv {p:List Int} (hp:Bts p) (hb:bg p=(p.length:Int)) (hne:p≠ []):vld (vl p)=true:=by
 have h4:=A5 p;unfold vld;simp only [aw,an]
 match p,hne with
 | [a],_=>
  obtain ⟨a1,a2⟩:=hp a (by simp);have hl:=oz a;simp only [bg,aJ,aQ] at hb;simp only [vl,List.foldl,b0]
  repeat' split
  all_goals simp only [aD,an]
  all_goals omega
 | [a,b],_=>
  obtain ⟨a1,a2⟩:=hp a (by simp);have hl:=oz a;simp only [bg,aJ,aQ] at hb;split at hb
  ·rename_i g
   have hs:128≤b∧b≤191:=by
    have:=g.2;unfold slo shi at this
    repeat' split at this
    all_goals omega
   simp only [vl,List.foldl,b0]
   repeat' split
   all_goals simp only [aD,an]
   all_goals omega
  ·omega
 | [a,b,c],_=>
  obtain ⟨a1,a2⟩:=hp a (by simp);have hl:=oz a;simp only [bg,aJ,aQ] at hb;split at hb
  ·rename_i g
   have hs:128≤b∧b≤191∧(a=237→b≤159):=by
    have:=g.2;unfold slo shi at this
    repeat' split at this
    all_goals omega
   simp only [vl,List.foldl,b0]
   repeat' split
   all_goals simp only [aD,an]
   all_goals omega
  ·omega
 | [a,b,c,d],_=>
  obtain ⟨a1,a2⟩:=hp a (by simp);have hl:=oz a;simp only [bg,aJ,aQ] at hb;split at hb
  ·rename_i g
   have hs:128≤b∧b≤191∧(a=240→144≤b)∧(a=244→b≤143):=by
    have:=g.2;unfold slo shi at this
    repeat' split at this
    all_goals omega
   simp only [vl,List.foldl,b0]
   repeat' split
   all_goals simp only [aD,an]
   all_goals omega
  ·omega
 | _ :: _ :: _ :: _ :: _ :: _,_=>simp only [bg,aJ] at hb; omega
theorem AB {b:Int} (h:Byt b):∀x∈(rs0 b).1,vld x=true:=fun x hx=>by
 obtain ⟨h1,h2⟩:=h;have hl:=oz b;unfold rs0 at hx;split at hx
 ·simp at hx
 ·split at hx
  ·rw [List.mem_singleton.1 hx];unfold vld;simp only [aw,aD,an];omega
  ·rw [List.mem_singleton.1 hx]; rfl
theorem Bp {h:List Int} (hb:Bts h) {b:Int} (h1:Byt b):∀x∈(jh h b).1,vld x=true:=fun x hx=>by
 unfold jh at hx;split at hx
 ·exact AB h1 x hx
 ·split at hx
  ·simp at hx
  ·split at hx
   ·rename_i g1 g2
    rw [List.mem_singleton.1 hx];refine Fv (hb.snoc h1) ?_ (by simp);have:=zm g2;simp only [aA,aJ,aQ] at this⊢;omega
   ·rcases List.mem_cons.1 hx with hx | hx
    ·rw [hx]; rfl
    ·exact AB h1 x hx
theorem ex4 {α β γ δ:Type} {X:Option α} {Q:α→β→γ→δ→Prop} (h:∃a,X=some a∧∃b c d,Q a b c d):∃a b c d,X=some a∧Q a b c d:=by
 obtain ⟨a,h1,b,c,d,h2⟩:=h;exact ⟨a,b,c,d,h1,h2⟩
theorem AX {G h:List Int} (F:Fd C s f k g W H P G h q ks op) {l:List Int} (hl:l.length≤1000000) (hv:∀x∈l,vld x=true):∃s' q' ks' op',go s (some f) l=some s'∧Fd C s' f k g W H P (G++l) h q' ks' op':=by
 unfold go;refine ex4 (oA (n:=l.length) (fun i (st:Int×Sto)=>st.1=(i:Int)∧∃q' ks' op',Fd C st.2 f k g W H P (G++l.take i) h q' ks' op') (fun u:Sto=>∃q' ks' op',Fd C u f k g W H P (G++l) h q' ks' op') (p:=fun s':Sto=>∃q' ks' op',Fd C s' f k g W H P (G++l) h q' ks' op') (fun i st hi hI=>?_) (fun st hI=>?_) ⟨rfl,q,ks,op,by simpa using F⟩ (by omega) (fun u hu=>⟨u,rfl,hu⟩))
 ·obtain ⟨i',st⟩:=st;obtain ⟨e,q1,ks1,op1,F1⟩:=hI;simp only at e F1;subst e;simp only;rw [ae (dlt hi),bc hi,er hi (by omega)];simp only [bsm];obtain ⟨s2,q2,ks2,op2,b1,b2⟩:=Dr F1 (hv _ (aG hi));rw [b1];refine .inl ⟨_,rfl,rfl,q2,ks2,op2,?_⟩;rw [av hi,←aK];exact b2
 ·obtain ⟨i',st⟩:=st;obtain ⟨e,q1,ks1,op1,F1⟩:=hI;simp only at e F1;subst e;refine ⟨st,by simp only; rw [af (by simp)],q1,ks1,op1,?_⟩;rw [aC (az _)] at F1;exact F1
theorem Fd.dec {G h h':List Int} (F:Fd C s f k g W H P G h q ks op) {d d':bA} (hd:s.feed_Feeder[f]? = some ⟨some k,d,sgB (pa G),op⟩) (hv:Dv d' h'):Fd C (s.sf f ⟨some k,d',sgB (pa G),op⟩) f k g W H P G h' q ks op:=by
 have hf:=cz hd;refine ⟨F.v.sf _,F.fr.rgp (Rgp.self _) ⟨rfl,rfl,rfl⟩,F.fz.sf _ _ F.fz.oc,F.n,F.hd,F.l,F.gv,⟨d',tF hf,hv⟩,F.o1,fun e=>?_⟩;obtain ⟨j,e1,⟨q0,c,C0,s0,ks0,cs0,cl,a1,a2,a3,a4,a5,a6,a7,a8⟩⟩:=F.o2 e;exact ⟨j,e1,⟨q0,c,C0,s0,ks0,cs0,cl,a1,a2,a3,a4,a5,a6,a7.sf _,a8⟩⟩
theorem BT {G h:List Int} (F:Fd C s f k g W H P G h q ks op) (hb:Bts h) {b:List Int} (hl:b.length≤9223372036854775807) (hbt:Bts b):∃s' q' ks' op',gJ s (some f) b=some s'∧Fd C s' f k g W H P (G++(bv h b).1) (bv h b).2 q' ks' op':=by
 unfold gJ;simp only [bL,aj,aU,bsm];refine ex4 (oA (n:=b.length) (fun i (st:Int×Sto)=>st.1=(i:Int)∧∃q' ks' op',Fd C st.2 f k g W H P (G++(bv h (b.take i)).1) (bv h (b.take i)).2 q' ks' op') (fun u:Sto=>∃q' ks' op',Fd C u f k g W H P (G++(bv h b).1) (bv h b).2 q' ks' op') (p:=fun s':Sto=>∃q' ks' op',Fd C s' f k g W H P (G++(bv h b).1) (bv h b).2 q' ks' op') (fun i st hi hI=>?_) (fun st hI=>?_) ⟨rfl,q,ks,op,by simpa [bv] using F⟩ (by omega) (fun u hu=>⟨u,rfl,hu⟩))
 ·obtain ⟨i',st⟩:=st;obtain ⟨e,q1,ks1,op1,F1⟩:=hI;simp only at e F1;subst e;simp only;rw [ae (dlt hi),bc hi,er hi (by omega)];obtain ⟨d,hd,hdv⟩:=F1.d;simp only [bsm,hd];have hx:=hbt _ (aG hi);obtain ⟨d',c1,c2⟩:=Do hdv hx;rw [c1];simp only [bsm];rw [qs (cz hd)];simp only [bsm];have hbt':Bts (b.take i):=fun x hx=>hbt x (cO hx);obtain ⟨s2,q2,ks2,op2,b1,b2⟩:=AX (F1.dec hd c2) (l:=(jh (bv h (b.take i)).2 b[i]).1) (by have:=tK (bv h (b.take i)).2 b[i]; omega) (Bp (tL hb hbt') hx);rw [b1];refine .inl ⟨_,rfl,rfl,q2,ks2,op2,?_⟩;rw [av hi,pg];simp only;rw [←aK];exact b2
 ·obtain ⟨i',st⟩:=st;obtain ⟨e,q1,ks1,op1,F1⟩:=hI;simp only at e F1;subst e;refine ⟨st,by simp only; rw [af (by simp)],q1,ks1,op1,?_⟩;rw [aC (az _)] at F1;exact F1
theorem tX {G h:List Int} (F:Fd C s f k g W H P G h q ks op):∃s',da s (some f)=some s'∧Fd C s' f k g W H q [] h q ks none:=by
 obtain ⟨d,hd,hdv⟩:=F.d;have hf:=cz hd;unfold da;simp only [bL,eB,bm,bsm,hd];rw [qs hf];simp only [bsm,wG];rw [qs (by rw [xj]; exact hf),Ff];refine ⟨_,rfl,⟨F.v.sf _,F.fr.rgp (Rgp.self _) ⟨rfl,rfl,rfl⟩,F.fz.sf _ none (fun j e=>by cases e),F.n,F.hd,rfl,fun x hx=>by simp at hx,⟨d,tF hf,hdv⟩,fun _=>rfl,fun e=>by cases e⟩⟩
theorem BS {G h:List Int} (F:Fd C s f k g W H P G h q ks op):∃s' q' ks',gI s (some f)=some s'∧Fd C s' f k g W H q' [] [] q' ks' none∧fo rX P (cls pj pr (G++(if h= [] then [] else [65533])))=some q':=by
 obtain ⟨d,hd,hdv⟩:=F.d;have hf:=cz hd;unfold gI;simp only [bL,aj,aU,bsm,hd];rw [BW hdv];simp only [bsm];rw [qs hf];simp only [bsm];obtain ⟨s2,q2,ks2,op2,b1,b2⟩:=AX (F.dec hd Dv.zero) (l:=if h= [] then [] else [65533]) (by split <;> simp) (fun x hx=>by
  split at hx
  ·simp at hx
  ·rw [List.mem_singleton.1 hx]; rfl)
 rw [b1];simp only [bsm];obtain ⟨s3,c1,c2⟩:=tX b2;rw [c1];exact ⟨s3,q2,ks2,rfl,c2,b2.l⟩
theorem Hj {G:List Int} (h:∀x∈G,vld x=true):R32 G:=fun x hx=>Ci (h x hx)
theorem yu {F:ao} (hb:Bts F.Raw) (hl:F.Raw.length≤1000000):dg F=some ((bv [] F.Raw).2.length:Int):=by
 unfold dg;rw [AW Hh.nil Bts.nil hb hl];rfl
theorem AD {F:ao} (hg:∀x∈F.Group,vld x=true) (hl:F.Group.length≤1000000) (h:fo rX F.P (cls pj pr F.Group)=some q):dr F=some q:=by
 unfold dr;rw [FZ (Hj hg) hl h];rfl
theorem ra {F:ao} (hg:∀x∈F.Group,vld x=true) (hl:F.Group.length≤1000000) (h:fo rX F.P (cls pj pr F.Group)=some q):cJ F=some ⟨q,[],F.Raw,F.Parts⟩:=by
 unfold cJ;rw [AD hg hl h];rfl
theorem CH {F:ao} (hl:F.Group.length≤1000000) (r:Int):dW F r=some ⟨F.P,F.Group++ [fM r],F.Raw,F.Parts⟩:=by
 have hfix:((cM r).bind fun x_6=>if (!x_6)=true then (some (65533):Option (Int)) else (some (r):Option (Int)))=some (fM r):=by
  rw [tM];unfold fM
  cases vld r <;> rfl
 unfold dW;rw [hfix];simp only [bsm];rw [cK (by simp; omega),ba];simp only [bsm];rw [cK (by simp; omega)];rfl
theorem BA {F:ao} (hp:F.Parts=((bv [] F.Raw).1.length:Int)) (hb:Bts F.Raw) {b:List Int} (hbt:Bts b) (hl:F.Raw.length+b.length≤1000000) (hg:F.Group.length≤1000000):
  dF F b=some ⟨F.P,F.Group++(bv (bv [] F.Raw).2 b).1,F.Raw++b,((bv [] (F.Raw++b)).1.length:Int)⟩:=by
 have hbb:Bts (F.Raw++b):=fun x hx=>by
  rcases List.mem_append.1 hx with hx | hx
  ·exact hb x hx
  ·exact hbt x hx
 have hll:(F.Raw++b).length≤1000000:=by simp; omega
 obtain ⟨l,h1,h2,h3⟩:=Gy hbb hll;have hap:=ow [] F.Raw b;unfold dF;rw [cK (by simp; omega),ba];simp only [bsm];rw [cK (by omega)];simp only [bsm];rw [h1];simp only [bsm];rw [yu hbb hll];simp only [bsm];have hz:∃z:List bV,(if decide (((bv [] (F.Raw++b)).2.length:Int) > 0)=true then (slc l 0 (w64 ((l.length:Int) - 1))).bind fun x_27=>(some (x_27):Option ((List bV))) else (some (l):Option ((List bV))))=some z∧z.map (·.R)=(bv [] (F.Raw++b)).1∧z.length≤l.length:=by
  unfold ux at h2;have hlen:=ii List.length h2;simp only [db,aA] at hlen;by_cases hh:(bv [] (F.Raw++b)).2= []
  ·rw [af (by rw [hh]; simp)];rw [ae hh,eC] at h2;exact ⟨l,rfl,h2,az _⟩
  ·rw [af hh] at h2 hlen;have hpos:0 < (bv [] (F.Raw++b)).2.length:=by
    cases hc:(bv [] (F.Raw++b)).2 with
    | nil=>exact absurd hc hh
    | cons _ _=>simp
   rw [ae (by simpa using hpos)];simp only [aJ,aQ] at hlen;have hs:=nU (xs:=l) (i:=0) (j:=l.length - 1) (cG _) (by omega);rw [show ((0:Nat):Int)=0 from rfl,jy,nH] at hs;rw [aF (by omega),show (l.length:Int) - 1=((l.length - 1:Nat):Int) by omega,hs];refine ⟨_,rfl,?_,by rw [ay]; omega⟩;rw [List.map_take,h2,cX (by omega),aC (by omega)]
 obtain ⟨z,hz1,hz2,hz3⟩:=hz;rw [hz1];simp only [bsm];have hzl:=ii List.length hz2;rw [db] at hzl;have hem:(bv [] (F.Raw++b)).1=(bv [] F.Raw).1++(bv (bv [] F.Raw).2 b).1:=by rw [hap]
 have heml:=ii List.length hem;rw [aA] at heml;rw [hp];refine lv (n:=z.length - (bv [] F.Raw).1.length) (fun i st=>st=((((bv [] F.Raw).1.length+i:Nat):Int),F.Group++(bv (bv [] F.Raw).2 b).1.take i)) (fun u=>u=F.Group++(bv (bv [] F.Raw).2 b).1) (fun i st hi e=>?_) (fun st e=>?_) (by simp) (by omega) (fun u hu=>?_)
 ·subst e;simp only;have hlt:(bv [] F.Raw).1.length+i < z.length:=by omega
  rw [ae (by simp; omega),bc hlt];simp only [bsm];have hgr:(F.Group++(bv (bv [] F.Raw).2 b).1.take i).length≤3000000:=by simp; omega
  rw [cK (by simp only [aQ]; omega),ba];simp only [bsm];rw [cK (by simp only [aJ,aQ]; omega),aF (by omega)];refine .inl ⟨_,rfl,?_⟩;have hR:z[(bv [] F.Raw).1.length+i].R=(bv (bv [] F.Raw).2 b).1[i]'(by omega):=by
   have e1:(z.map (·.R))[(bv [] F.Raw).1.length+i]? = ((bv [] F.Raw).1++(bv (bv [] F.Raw).2 b).1)[(bv [] F.Raw).1.length+i]? :=by rw [hz2,hem]
   rw [bE,ag hlt,bh (by omega),Nat.add_sub_cancel_left,ag (show i < (bv (bv [] F.Raw).2 b).1.length by omega)] at e1;exact be e1
  rw [hR,av (show i < (bv (bv [] F.Raw).2 b).1.length by omega),aK]
  congr 1
 ·subst e;refine ⟨_,by simp only; rw [af (by simp; omega)],?_⟩;rw [aC (by omega)]
 ·subst hu;rw [hzl]
end Go.Proofs.YthokmpbbkpjhbaaGreatDoor
namespace Go.Proofs.YthokmpbbkpjhbaaGreatDoor
open Go Go.Lt
variable {s C:Sto} {f k g W H:Nat} {q P:aa} {ks:List Nat} {op:Option Nat}
theorem Fz.self (s:Sto) (f:Nat) (op:Option Nat) (h:∀x,s.feed_Feeder[f]? = some x→x.open_=op) (hf:f < s.feed_Feeder.length):Fz s s f op:=
 ⟨az _,fun _ _ _=>rfl,az _,fun _ _ _=>rfl,fun j e=> .inl ⟨s.feed_Feeder[f],ag hf,by rw [h _ (ag hf)]; exact e⟩,rfl⟩
theorem Pv.addf (h:Pv s s k g W q ks) (x:bB):Pv (s.add_feed_Feeder x) (s.add_feed_Feeder x) k g W q ks:=
 ⟨h.p,⟨h.g.g,h.g.r,h.g.h1,h.g.h2,h.g.w1,h.g.w2⟩,h.nd,h.l,rfl,h.f.rgp ⟨rfl,rfl,rfl⟩ ⟨rfl,rfl,rfl⟩⟩
theorem Dm (h:Pv s s k g W q ks) (hh:Hd q.At W ks.length):∃s',nt s (some k)=some (s',some s.feed_Feeder.length)∧Fd s' s' s.feed_Feeder.length k g W ks.length q [] [] q ks none∧s'=s.add_feed_Feeder ⟨some k,⟨0,0,0,0,0⟩,⟨false,0,0,0,false⟩,none⟩:=by
 unfold nt;simp only [bL,fh,bsm,h.p,aj,aU];have hg:(s.add_feed_Feeder ⟨some k,⟨0,0,0,0,0⟩,⟨false,0,0,0,false⟩,none⟩).feed_Feeder[s.feed_Feeder.length]? = some ⟨some k,⟨0,0,0,0,0⟩,⟨false,0,0,0,false⟩,none⟩:=by simp [Sto.add_feed_Feeder]
 refine ⟨_,rfl,⟨h.addf _,(h.addf _).f,Fz.self _ _ _ (fun x hx=>?_) (cz hg),rfl,hh,rfl,fun x hx=>by simp at hx,⟨_,hg,Dv.zero⟩,fun _=>rfl,fun e=>by cases e⟩,rfl⟩;rw [hg] at hx;cases hx;rfl
theorem Bw {W H:Nat} (w2:W≤1024) (h2:H≤1024):gy W H=some ⟨bls W H,⟨0,0,false⟩,true⟩:=by
 unfold gy;rw [Bx w2 h2];rfl
variable {F:ao}
end Go.Proofs.YthokmpbbkpjhbaaGreatDoor
namespace Go.Proofs.YthokmpbbkpjhbaaGreatDoor
open Go Go.Lt
variable {s:Sto} {k:Nat} {l p:List ab} {w:Bool}
theorem Hs {c m:Nat} (h:c≤m):cl (c:Int) m=c:=by unfold cl; omega
theorem AO (n:Int) (m:Nat):fS n 0 m=some ((cl n m:Nat):Int):=by
 simp only [fS,eX,dq,cl,aR];omega
def rg (l:List ab) (w:Bool) (a b:Nat):bf:=if a < b then ⟨pl l a (List.replicate (b - a) bl),pw l w a (b - a)⟩ else ⟨l,w⟩
theorem CL {a b:Nat} (h:Snd l) (hb:b≤l.length):Snd (rg l w a b).cells:=by
 unfold rg;split
 ·exact h.paint (tE _) (by simp; omega)
 ·exact h
theorem FJ (a b:Nat):(rg l w a b).cells.length=l.length:=by
 unfold rg;split
 ·exact jC _ _ _
 ·rfl
theorem sR (h:s.row_Row[k]? = some ⟨l,w⟩) (hs:Snd l) (hl:l.length≤1024) (a b:Int):
  gO s (some k) a b=some (s.sr k (rg l w (cl a l.length) (cl b l.length))):=by
 unfold gO;simp only [iS h,bsm,AO];have ha:=mX a l.length;have hb:=mX b l.length;generalize cl a l.length=a' at *;generalize cl b l.length=b' at *;unfold rg;by_cases hab:a' < b'
 ·have e:w64 ((b':Int) - (a':Int))=((b' - a':Nat):Int):=by rw [aF (by omega)]; omega
  rw [ae (by simp; omega),ae hab,e,uh,show (max 0 (min (((b' - a':Nat)):Int) 1024)).toNat=b' - a' by omega];simp only [bsm];rw [ou h hs hl (tE _) (by simp; omega) (by simp; omega)];simp
 ·rw [af (by simp; omega),af hab,yj h]
theorem ox (l:List ab) (w:Bool) (hl:l.length≤1024) (a b:Int):cL l w a b=some ((rg l w (cl a l.length) (cl b l.length)).cells,(rg l w (cl a l.length) (cl b l.length)).wrap):=by
 unfold cL;have ha:=mX a l.length;have hb:=mX b l.length;have ea:aE 0 (aB a (l.length:Int))=((cl a l.length:Nat):Int):=by simp only [eX,dq,cl]; omega
 have eb:aE 0 (aB b (l.length:Int))=((cl b l.length:Nat):Int):=by simp only [eX,dq,cl]; omega
 rw [ea,eb];generalize cl a l.length=a' at *;generalize cl b l.length=b' at *;unfold rg;by_cases hab:a' < b'
 ·have e:w64 ((b':Int) - (a':Int))=((b' - a':Nat):Int):=by rw [aF (by omega)]; omega
  rw [af (by simp; omega),ae hab,e,nV _ (by omega)];simp only [bsm];have:=tN l w a' (List.replicate (b' - a') bl) (by omega) (by omega) (by simp; omega);rw [lm] at this;rw [show (List.replicate (((b' - a':Nat):Int).toNat) (⟨0,([]:List Int)⟩:ab))=List.replicate (b' - a') bl by rfl,this];rfl
 ·rw [ae (by simp; omega),af hab]
theorem Dw (h:s.row_Row[k]? = some ⟨l,w⟩) (hs:Snd l) (hl:l.length≤1024) (col n:Int):
  jT s (some k) col n=some (if 0≤col∧0 < n then s.sr k (rg l w (cl col l.length) (cl (((cl col l.length:Nat):Int)+((cl n l.length:Nat):Int)) l.length)) else s):=by
 unfold jT;simp only [aZ,bsm];by_cases hc:0≤col∧0 < n
 ·rw [ae (by simp; omega),ae hc];simp only [iS h,bsm,AO];have h1:=mX col l.length;have h2:=mX n l.length;rw [aF (by omega),sR h hs hl];simp only [bsm,Hs h1]
 ·rw [af (by simp; omega),af hc]
def ac (l:List ab) (w:Bool) (x A B:Int):bf:=
 if x=0 then rg l w (cl A l.length) (cl B l.length)
 else if x=1 then rg l w 0 (cl (max (-1) (min A l.length)+1) l.length)
 else if x=2 then rg l w (cl A l.length) l.length
 else if x=3 then ⟨(rg l w 0 l.length).cells,false⟩
 else if 0≤A∧0 < B then rg l w (cl A l.length) (cl (((cl A l.length:Nat):Int)+((cl B l.length:Nat):Int)) l.length) else ⟨l,w⟩
theorem Fh {a b:Nat} (h:b≤a):rg l w a b=⟨l,w⟩:=by
 unfold rg;rw [af (by omega)]
theorem Ds (m:Nat):cl 0 m=0:=by unfold cl; omega
theorem uR (m:Nat):cl (m:Int) m=m:=by unfold cl; omega
theorem Aa (h:s.row_Row[k]? = some ⟨l,w⟩) (hs:Snd l) (hl:l.length≤1024) (a b:Int):lL s (some k) a=some (s.sr k (ac l w 1 a b)):=by
 unfold lL fS;simp only [iS h,bsm,eX,dq];rw [aF (by omega),sR h hs hl,Ds];rfl
theorem yU (h:s.row_Row[k]? = some ⟨l,w⟩) (hs:Snd l) (hl:l.length≤1024) (a b:Int):kR s (some k) a=some (s.sr k (ac l w 2 a b)):=by
 unfold kR;simp only [iS h,bsm];rw [sR h hs hl,uR];rfl
theorem wZ (h:s.row_Row[k]? = some ⟨l,w⟩) (hs:Snd l) (hl:l.length≤1024) (a b:Int):km s (some k)=some (s.sr k (ac l w 3 a b)):=by
 have hk:=cz h;unfold km;simp only [iS h,bsm];rw [sR h hs hl,uR,Ds];simp only [bsm];rw [sN (l:=(rg l w 0 l.length).cells) (w:=(rg l w 0 l.length).wrap) (rV hk),Ax];rfl
theorem yV (h:s.row_Row[k]? = some ⟨l,w⟩) (hs:Snd l) (hl:l.length≤1024) (a b:Int):jT s (some k) a b=some (s.sr k (ac l w 4 a b)):=by
 rw [Dw h hs hl,show ac l w 4 a b=if 0≤a∧0 < b then rg l w (cl a l.length) (cl (((cl a l.length:Nat):Int)+((cl b l.length:Nat):Int)) l.length) else ⟨l,w⟩ by rfl];split
 ·rfl
 ·rw [yj h]
theorem Eh (l:List ab) (w:Bool) (hl:l.length≤1024) (x A B:Int):gE l w x A B=some ((ac l w x A B).cells,(ac l w x A B).wrap):=by
 unfold gE ac;by_cases h0:x=0
 ·rw [ae (by simpa using h0),ae h0,ox l w hl];rfl
 rw [af (by simpa using h0),af h0];by_cases h1:x=1
 ·rw [ae (by simpa using h1),ae h1];by_cases hA:A < 0
  ·rw [ae (by simpa using hA),show max (-1) (min A (l.length:Int))+1=0 by omega,Ds,Fh (az _)]
  ·rw [af (by simpa using hA),dq,aF (by omega),ox l w hl,Ds,show max (-1) (min A (l.length:Int))=min A (l.length:Int) by omega];rfl
 rw [af (by simpa using h1),af h1];by_cases h2:x=2
 ·rw [ae (by simpa using h2),ae h2,ox l w hl,uR];rfl
 rw [af (by simpa using h2),af h2];by_cases h3:x=3
 ·rw [ae (by simpa using h3),ae h3,ox l w hl,uR,Ds];rfl
 rw [af (by simpa using h3),af h3];simp only [br,bsm];by_cases hA:0≤A∧0 < B
 ·rw [ae hA];by_cases hg:(l.length:Int)≤A
  ·rw [ae (by simp; omega),show cl A l.length=l.length by unfold cl; omega,Fh (mX _ _)]
  ·rw [af (by simp; omega),dq,aF (by omega),ox l w hl];rw [show cl (A+min B (l.length:Int)) l.length=cl (((cl A l.length:Nat):Int)+((cl B l.length:Nat):Int)) l.length by unfold cl; omega];rfl
 ·rw [af hA,ae (by simp; omega)]
theorem GA (hs:Snd l) (x A B:Int):Snd (ac l w x A B).cells:=by
 unfold ac
 repeat' split
 all_goals first | exact hs | exact CL hs (mX _ _) | exact CL hs (az _)
theorem GB (x A B:Int):(ac l w x A B).cells.length=l.length:=by
 unfold ac
 repeat' split
 all_goals first | rfl | exact FJ _ _
end Go.Proofs.YthokmpbbkpjhbaaGreatDoor
