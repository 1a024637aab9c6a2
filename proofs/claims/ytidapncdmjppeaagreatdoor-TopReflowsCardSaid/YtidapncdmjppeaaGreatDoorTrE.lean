/- Parts of the proofs of TopReflows: the walk through the code, and plain Lean. No condition. -/
import Derived.Test.YtidapncdmjppeaaGreatDoorTrD
import Derived.Test.YtidapncdmjppeaaGreatDoorTrA
import Derived.Test.YtidapncdmjppeaaGreatDoorTrB
import Derived.Test.YtidapncdmjppeaaGreatDoorTrC
import Derived.KernelRfl
set_option linter.unusedVariables false
set_option linter.unusedSimpArgs false
namespace Go.Proofs.YtidapncdmjppeaaGreatDoor
open Go Go.Lt
def bl:aa:=⟨0,[]⟩
def vld (r:Int):Bool:=decide (0≤r) && decide (r≤1114111) && (decide (r < 55296) || decide (r > 57343))
theorem wq (r:Int):eI r=some (vld r):=by
 simp only [eI,aV,bQ,bsm,vld,zL]
theorem sG (r:Int):ez r=some (vld r):=by
 simp only [ez,aV,bQ,bsm,vld,aM];rw [cG];simp;omega
def rgt (c:aa):Bool:=
 if c.Kind=0∨c.Kind=3 then c.Text.isEmpty else (decide (c.Kind=1) || decide (c.Kind=2)) && decide (1≤c.Text.length) && decide (c.Text.length≤16) && c.Text.all vld
theorem qM {α:Type} (p:α→Bool) (l:List α) (i:Nat) (h:i < l.length):(l.take (i+1)).all p=((l.take i).all p && p l[i]):=by
 rw [ax h,List.all_append];simp
theorem sq {α:Type} {p:α→Bool} {l:List α} {i:Nat} (h:i < l.length) (hp:p l[i]=false):l.all p=false:=by
 rw [List.all_eq_false];exact ⟨_,aJ h,by simp [hp]⟩
theorem tI {α:Type} (l:List α):((l.length:Int)==0)=l.isEmpty:=by
 cases l <;> simp <;> omega
theorem Bg (c:aa):ge c=some (rgt c):=by
 unfold ge rgt;simp only [bQ,aV,bsm];by_cases h1:c.Kind=0∨c.Kind=3
 ·have e:(c.Kind==0 || c.Kind==3)=true:=by rcases h1 with h | h <;> simp [h]
  rw [af e,af h1,tI]
 ·have e:(c.Kind==0 || c.Kind==3)=false:=by simp; omega
  rw [ag (by rw [e]; simp),ag h1];by_cases h2:((c.Kind=1∨c.Kind=2)∧1≤c.Text.length∧c.Text.length≤16)
  ·have e2:(((c.Kind != 1 && c.Kind != 2) || decide ((c.Text.length:Int) < 1)) || decide ((c.Text.length:Int) > 16))=false:=by
    simp; omega
   rw [ag (by rw [e2]; simp)];obtain ⟨t,h3,h4⟩:=qR (τ:=Bool ⊕ Unit) (n:=c.Text.length) (by omega) (fun t=>match t with | .inl b=>b=c.Text.all vld | .inr _=>c.Text.all vld=true) (fun i=>(c.Text.take i).all vld=true) (by simp)
    (step:=fun s_44=>
     if (decide (s_44 < (c.Text.length:Int)))=true then
     (idx c.Text s_44).bind fun x_54=>
     (eI x_54).bind fun x_56=>
     if (!x_56)=true then
     some (.inr (.inl false))
     else
     some (.inl ((w64 (s_44+1))))
     else
     some (.inr (.inr ())))
    (fun i hi hI=>by
     have e3:w64 ((i:Int)+1)=((i+1:Nat):Int):=by rw [aN (by omega)]; simp
     simp only [pf,hi,jR,bF,bp hi,bsm,wq,e3]
     cases hv:vld c.Text[i] with
     | true=>exact .inl ⟨by simp,by rw [qM _ _ _ hi,hI,hv]; rfl⟩
     | false=>exact .inr ⟨.inl false,by simp,(sq hi hv).symm⟩)
    (fun hI=>⟨.inr (),by simp,by simpa using hI⟩)
   rw [h3];simp only [bsm];have e4:(decide (c.Kind=1) || decide (c.Kind=2))=true:=by simp; exact h2.1
   rw [e4,Dd h2.2.1,Dd h2.2.2]
   cases t with
   | inl b=>simp only at h4; simp [h4]
   | inr u=>simp only at h4; simp [h4]
  ·have e2:(((c.Kind != 1 && c.Kind != 2) || decide ((c.Text.length:Int) < 1)) || decide ((c.Text.length:Int) > 16))=true:=by
    simp; omega
   rw [af e2]
   congr 1
   symm
   simp only [ug,vD,gp];omega
theorem yO (r:Int):iA r=some (!vld r):=by simp [iA,sG]
theorem vN (l:List Int) (hl:l.length≤9223372036854775807):bP l=some (!l.all vld):=by
 unfold bP cx;obtain ⟨t,h3,h4⟩:=qR (τ:=Int ⊕ Unit) (n:=l.length) (by omega) (fun t=>match t with | .inl i=>0≤i∧l.all vld=false | .inr _=>l.all vld=true) (fun i=>(l.take i).all vld=true) (by simp)
  (step:=fun s_7=>
   if (decide (s_7 < (l.length:Int)))=true then
   (idx l s_7).bind fun x_16=>
   (iA x_16).bind fun x_18=>
   if x_18=true then
   some (.inr (.inl s_7))
   else
   some (.inl ((w64 (s_7+1))))
   else
   some (.inr (.inr ())))
  (fun i hi hI=>by
   have e3:w64 ((i:Int)+1)=((i+1:Nat):Int):=by rw [aN (by omega)]; simp
   simp only [pf,hi,jR,bF,bp hi,bsm,yO,e3]
   cases hv:vld l[i] with
   | true=>exact .inl ⟨by simp,by rw [qM _ _ _ hi,hI,hv]; rfl⟩
   | false=>exact .inr ⟨.inl i,by simp,by omega,sq hi hv⟩)
  (fun hI=>⟨.inr (),by simp,by simpa using hI⟩)
 rw [h3];simp only [bsm]
 cases t with
 | inl b=>simp only at h4; simp [h4.1,h4.2]
 | inr u=>simp only at h4; simp [h4]
theorem vf (c:aa):gK c=some (rgt c):=by
 unfold gK rgt;by_cases h1:c.Kind=0∨c.Kind=3
 ·rw [af h1];rcases h1 with h | h <;> simp [h,tI]
 ·have n0:(c.Kind==0)=false:=by simp; omega
  have n3:(c.Kind==3)=false:=by simp; omega
  rw [ag h1];simp only [n0,n3,ak,aY,bsm];by_cases h2:c.Kind=1∨c.Kind=2
  ·have e:(if (c.Kind==1)=true then some (c.Kind==1) else some (c.Kind==2):Option Bool)=some true:=by rcases h2 with h | h <;> simp [h]
   have e2:(decide (c.Kind=1) || decide (c.Kind=2))=true:=by simp; exact h2
   rw [e,e2];simp only [bsm,bF,aV,fQ];by_cases h3:1≤c.Text.length∧c.Text.length≤16
   ·rw [vN _ (by omega)];have e4:(decide ((c.Text.length:Int) > 0) && decide ((c.Text.length:Int)≤16))=true:=by simp; omega
    have e5:(decide (1≤c.Text.length) && decide (c.Text.length≤16))=true:=by simp; exact h3
    rw [e4,e5];simp [je]
   ·have e4:(decide ((c.Text.length:Int) > 0) && decide ((c.Text.length:Int)≤16))=false:=by simp; omega
    have e5:(decide (1≤c.Text.length) && decide (c.Text.length≤16))=false:=by simp; omega
    rw [e4,e5];simp [fW]
  ·have n1:(c.Kind==1)=false:=by simp; omega
   have n2:(c.Kind==2)=false:=by simp; omega
   have e2:(decide (c.Kind=1) || decide (c.Kind=2))=false:=by simp; omega
   rw [e2];simp [n1,n2]
def kd (l:List aa) (i:Nat):Int:=match l[i]? with | some c=>c.Kind | none=>0
theorem iP {l:List aa} {i:Nat} (h:i < l.length):kd l i=l[i].Kind:=by simp [kd,ab h]
theorem lE {l:List aa} {i:Nat} (h:l.length≤i):kd l i=0:=by simp [kd,aR h]
def Snd (l:List aa):Prop:=∀i (h:i < l.length),rgt l[i]=true∧(l[i].Kind=2→kd l (i+1)=3)∧(l[i].Kind=3→0 < i∧kd l (i - 1)=2)
theorem Cu (l:List aa) (i:Int):eg l i=some (if 0≤i then kd l i.toNat else 0):=by
 unfold eg;simp only [bQ,bsm];by_cases h0:i < 0
 ·rw [af (by simp [h0]),ag (by omega)]
 ·by_cases h1:i < l.length
  ·obtain ⟨k,rfl⟩:=Int.eq_ofNat_of_zero_le (show 0≤i by omega);have hk:k < l.length:=by omega
   rw [ag (by simp; omega),af (by omega),bp hk];simp [iP hk]
  ·rw [af (by simp; omega),af (by omega),lE (by omega)]
theorem Gz (l:List aa) (hl:l.length≤9223372036854775807):∃b,lC l=some b∧(b=true↔Snd l):=by
 unfold lC;obtain ⟨t,h3,h4⟩:=qR (τ:=Bool ⊕ Unit) (n:=l.length) (by omega) (fun t=>match t with | .inl b=>b=false∧¬Snd l | .inr _=>Snd l)
  (fun i=>∀j (h:j < l.length),j < i→rgt l[j]=true∧(l[j].Kind=2→kd l (j+1)=3)∧(l[j].Kind=3→0 < j∧kd l (j - 1)=2)) (fun j _ h=>by omega)
  (step:=fun s_5=>
   if (decide (s_5 < (l.length:Int)))=true then
   (idx l s_5).bind fun x_13=>
   (ge x_13).bind fun x_15=>
   (orE (!x_15) ((idx l s_5).bind fun x_21=>
   (bL (x_21.Kind==2) ((eg l (w64 (s_5+1))).bind fun x_30=>
   some (x_30 != 3))).bind fun d_25=>
   some d_25)).bind fun d_17=>
   (orE d_17 ((idx l s_5).bind fun x_36=>
   (bL (x_36.Kind==3) ((eg l (w64 (s_5 - 1))).bind fun x_45=>
   some (x_45 != 2))).bind fun d_40=>
   some d_40)).bind fun d_32=>
   if d_32=true then
   some (.inr (.inl false))
   else
   some (.inl ((w64 (s_5+1))))
   else
   some (.inr (.inr ())))
  (fun i hi hI=>by
   have e3:w64 ((i:Int)+1)=((i+1:Nat):Int):=by rw [aN (by omega)]; simp
   have e4:w64 ((i:Int) - 1)=(i:Int) - 1:=aN (by omega);simp only [pf,hi,jR,bF,bp hi,bsm,Bg,Cu,e3,e4,aV,bQ];by_cases hk:rgt l[i]=true∧(l[i].Kind=2→kd l (i+1)=3)∧(l[i].Kind=3→0 < i∧kd l (i - 1)=2)
   ·refine .inl ⟨?_,fun j h hj=>?_⟩
    ·rw [ag];obtain ⟨h1,h2,h5⟩:=hk;simp only [h1,cW,km,aF,aw,aX,nH,CI,CH,FJ,Decidable.not_not];refine ⟨fun h=>?_,fun h=>?_⟩
     ·rw [af (by omega)]; simpa using h2 h
     ·obtain ⟨h6,h7⟩:=h5 h;rw [af (by omega),show ((i:Int) - 1).toNat=i - 1 by omega]; exact h7
    ·by_cases hji:j=i
     ·subst hji; exact hk
     ·exact hI j h (by omega)
   ·refine .inr ⟨.inl false,?_,rfl,fun hs=>hk (hs i hi)⟩;rw [af]
    cases h1:rgt l[i] with
    | false=>simp
    | true=>
     simp only [h1,uv] at hk;have hk:(l[i].Kind=2∧¬kd l (i+1)=3)∨(l[i].Kind=3∧¬(0 < i∧kd l (i - 1)=2)):=by
      by_cases hA:l[i].Kind=2→kd l (i+1)=3
      ·exact .inr (Classical.not_imp.1 fun hB=>hk ⟨hA,hB⟩)
      ·exact .inl (Classical.not_imp.1 hA)
     simp only [cW,km,aF,aw,aX,nH,CI];rcases hk with ⟨h,h2⟩ | ⟨h,h2⟩
     ·refine .inl ⟨h,?_⟩;rw [af (by omega)]; simpa using h2
     ·refine .inr ⟨h,?_⟩;by_cases h0:i=0
      ·subst h0; simp
      ·rw [af (by omega),show ((i:Int) - 1).toNat=i - 1 by omega];exact fun h3=>h2 ⟨by omega,h3⟩)
  (fun hI=>⟨.inr (),by simp,fun j h=>hI j h h⟩)
 rw [h3];simp only [bsm]
 cases t with
 | inl b=>exact ⟨b,rfl,by simp only at h4; rw [h4.1]; simp [h4.2]⟩
 | inr u=>exact ⟨true,rfl,by simpa using h4⟩
theorem qU (l:List aa) (hl:l.length≤9223372036854775807):∃b,fC l=some b∧(b=true↔Snd l):=by
 unfold fC
 let ld:Nat→Bool:=fun i=>match i with | 0=>false | k+1=>decide (kd l k=2)
 have key:∀i (h:i < l.length),((rgt l[i]=true∧(ld i=decide (l[i].Kind=3)))↔rgt l[i]=true∧(l[i].Kind=3→0 < i∧kd l (i - 1)=2)∧(0 < i→kd l (i - 1)=2→l[i].Kind=3)):=fun i h=>by
  cases i with
  | zero=>simp [ld]
  | succ k=>simp only [ld,pZ,ny]; constructor <;> (rintro ⟨a,b⟩; exact ⟨a,by omega⟩)
 have snd:Snd l↔(∀i (h:i < l.length),rgt l[i]=true∧ld i=decide (l[i].Kind=3))∧ld l.length=false:=by
  constructor
  ·intro hs;refine ⟨fun i h=>(key i h).2 ⟨(hs i h).1,(hs i h).2.2,fun h0 h2=>?_⟩,?_⟩
   ·have:=(hs (i - 1) (by omega)).2.1 (by rw [←iP]; exact h2);rw [show i - 1+1=i by omega,iP h] at this;exact this
   ·cases hn:l.length with
    | zero=>rfl
    | succ k=>
     simp only [ld,gp];intro h2;have:=(hs k (by omega)).2.1 (by rw [←iP]; exact h2);rw [lE (by omega)] at this;cases this
  ·rintro ⟨h1,h2⟩ i h;have hk:=(key i h).1 (h1 i h);refine ⟨hk.1,fun h3=>?_,hk.2.1⟩;by_cases hn:i+1 < l.length
   ·have:=((key (i+1) hn).1 (h1 (i+1) hn)).2.2 (by omega) (by rw [pZ,iP h]; exact h3);rw [iP hn]; exact this
   ·exfalso
    have e:l.length=i+1:=by omega
    rw [e] at h2;simp only [ld,gp] at h2;rw [iP h] at h2;exact h2 h3
 obtain ⟨t,h3,h4⟩:=nO (τ:=Bool ⊕ Bool) (fun s:Bool×Int=>∃i:Nat,s=(ld i,(i:Int))∧i≤l.length∧∀j (h:j < l.length),j < i→rgt l[j]=true∧ld j=decide (l[j].Kind=3)) (fun s=>l.length - s.2.toNat)
  (fun t=>match t with | .inl b=>b=false∧¬Snd l | .inr b=>(b=false↔Snd l))
  (step:=fun s_9=>
   if (decide (s_9.2 < (l.length:Int)))=true then
   (idx l s_9.2).bind fun x_12=>
   (gK x_12).bind fun x_18=>
   (orE (!x_18) (some (!(s_9.1==(x_12.Kind==3))))).bind fun d_20=>
   if d_20=true then
   some (.inr (.inl false))
   else
   some (.inl (x_12.Kind==2,(w64 (s_9.2+1))))
   else
   some (.inr (.inr (s_9.1))))
  (by
   rintro s ⟨i,rfl,hi,hI⟩;rcases aL i l.length with hlt | hge
   ·have e3:w64 ((i:Int)+1)=((i+1:Nat):Int):=by rw [aN (by omega)]; simp
    simp only [pf,hlt,jR,bF,bp hlt,bsm,vf,bQ,e3];by_cases hk:rgt l[i]=true∧ld i=decide (l[i].Kind=3)
    ·refine .inl ⟨_,?_,⟨i+1,rfl,hlt,fun j h hj=>?_⟩,?_⟩
     ·rw [ag]
      ·simp only [ld,iP hlt]; rfl
      ·rw [hk.1,hk.2]; simp; rfl
     ·by_cases hji:j=i
      ·subst hji; exact hk
      ·exact hI j h (by omega)
     ·simp; omega
    ·refine .inr ⟨.inl false,?_,rfl,fun hs=>hk ((snd.1 hs).1 i hlt)⟩;rw [af]
     cases h1:rgt l[i] with
     | false=>simp
     | true=>
      simp only [h1,uv] at hk;simp only [cW,km,em,ej,CI];exact hk
   ·obtain rfl:i=l.length:=by omega
    refine .inr ⟨.inr (ld l.length),by simp,?_⟩;simp only;rw [snd];exact ⟨fun h=>⟨fun j hj=>hI j hj hj,h⟩,fun h=>h.2⟩) (((l.length:Int) - 0).toNat+1) (false,0) ⟨0,rfl,db _,fun j _ h=>by omega⟩ (by simp)
 rw [h3];simp only [bsm]
 cases t with
 | inl b=>exact ⟨b,rfl,by simp only at h4; rw [h4.1]; simp [h4.2]⟩
 | inr b=>exact ⟨!b,rfl,by simp only at h4; rw [←h4]; cases b <;> simp⟩
def Sht (l:List aa):Prop:=∀i (h:i < l.length),l[i].Text.length≤1000000
theorem Snd.sht {l:List aa} (h:Snd l):Sht l:=fun i hi=>by
 have:=(h i hi).1;unfold rgt at this;split at this
 ·have e:l[i].Text= []:=by simpa using this
  rw [e]; simp
 ·simp at this; omega
def fp (r:Int):Int:=if vld r=true then r else 65533
def fx (t:List Int):List Int:=(t.take 16).map fp
def di (wide:Int) (t:List Int):List aa:=
 if t= [] then (if wide > 1 then [bl,bl] else [bl]) else if wide > 1 then [⟨2,t⟩,⟨3,[]⟩] else [⟨1,t⟩]
theorem xM (r:Int):vld (fp r)=true:=by
 unfold fp;split
 ·assumption
 ·rfl
theorem F6 (t:List Int):∀x∈fx t,vld x=true:=fun x hx=>by
 obtain ⟨y,_,rfl⟩:=List.mem_map.1 hx;exact xM y
theorem F7 (t:List Int):(fx t).length≤16:=by simp [fx]; omega
theorem AJ (t:List Int):(fx t).length=min 16 t.length:=by simp [fx]
theorem Cq {k:Int} (hk:k=1∨k=2) {t:List Int} (h1:1≤t.length) (h2:t.length≤16) (hv:∀x∈t,vld x=true):rgt ⟨k,t⟩=true:=by
 unfold rgt;rw [ag (by simp; omega)];simp only [aw,aF,an,sv];exact ⟨⟨⟨hk,h1⟩,h2⟩,hv⟩
theorem A2 (wide:Int) {t:List Int} (hv:∀x∈t,vld x=true) (h2:t.length≤16):Snd (di wide t):=by
 unfold di;have hb:rgt bl=true:=rfl;have h3:rgt ⟨3,[]⟩=true:=rfl;by_cases ht:t= []
 ·rw [af ht];split
  ·intro i hi
   match i,hi with
   | 0,_=>exact ⟨hb,fun h=>by simp [bl] at h,fun h=>by simp [bl] at h⟩
   | 1,_=>exact ⟨hb,fun h=>by simp [bl] at h,fun h=>by simp [bl] at h⟩
  ·intro i hi
   match i,hi with
   | 0,_=>exact ⟨hb,fun h=>by simp [bl] at h,fun h=>by simp [bl] at h⟩
 ·rw [ag ht];have h1:1≤t.length:=by
   rcases pY t.length with h | h
   ·exact absurd (bW h) ht
   ·exact h
  split
  ·intro i hi
   match i,hi with
   | 0,_=>exact ⟨Cq (.inr rfl) h1 h2 hv,fun _=>rfl,fun h=>by simp at h⟩
   | 1,_=>exact ⟨h3,fun h=>by simp at h,fun _=>⟨by omega,rfl⟩⟩
  ·intro i hi
   match i,hi with
   | 0,_=>exact ⟨Cq (.inl rfl) h1 h2 hv,fun h=>by simp at h,fun h=>by simp at h⟩
theorem Ct (wide:Int) (t:List Int) (ht:t.length≤9223372036854775807):kw wide t=some (di wide (fx t)):=by
 unfold kw;rw [rM (s:=(([]:List Int),(0:Int))) (t:=fx t) (fun st:List Int×Int=>∃i:Nat,st=((fx t).take i,(i:Int))∧i≤(fx t).length) (fun st=>(fx t).length - st.2.toNat) ?_ ⟨0,rfl,db _⟩ (by simp [fx]; omega)]
 ·simp only [bsm,aV];unfold di;by_cases h0:fx t= []
  ·rw [af h0,h0];by_cases hw:wide > 1
   ·simp [hw,bl]
   ·simp [hw,bl]
  ·have h1:(((fx t).length:Int)==0)=false:=by
    rw [ej];intro e;exact h0 (bW (by omega))
   rw [ag h0];simp only [h1,lv,ak,aY];by_cases hw:wide > 1
   ·simp [hw]
   ·simp [hw]
 ·rintro st ⟨i,rfl,hi⟩;have hl:=AJ t;rcases aL i (fx t).length with hlt | hge
  ·refine .inl ⟨_,?_,⟨i+1,rfl,hlt⟩,by simp; omega⟩;have e3:w64 ((i:Int)+1)=((i+1:Nat):Int):=by rw [aN (by omega)]; simp
   have hit:i < t.length:=by omega
   have d1:(decide ((i:Int) < (t.length:Int)) && decide ((i:Int) < 16))=true:=by simp; omega
   have hx:(fx t)[i]=fp t[i]:=by simp [fx]
   simp only [aV,bsm,d1,bF,bp hit,wq,e3];have happ:∀x,x=fp t[i]→app ((fx t).take i) [x]=some ((fx t).take (i+1)):=fun x hxx=>by
    rw [cY (by rw [aA]; simp; omega),ax hlt,hx,hxx]
   cases hv:vld t[i] with
   | true=>
    simp only [bF];rw [happ _ (by simp [fp,hv])];rfl
   | false=>
    simp only [ak,aY];rw [happ _ (by simp [fp,hv])];rfl
  ·obtain rfl:i=(fx t).length:=by omega
   have d1:(decide (((fx t).length:Int) < (t.length:Int)) && decide (((fx t).length:Int) < 16))=false:=by simp; omega
   exact .inr (by simp only [aV,bsm,d1,ak,aY]; simp)
end Go.Proofs.YtidapncdmjppeaaGreatDoor
namespace Go.Proofs.YtidapncdmjppeaaGreatDoor
open Go Go.Lt
def Sto.sr (s:Sto) (k:Nat) (x:bc):Sto:={ s with row_Row:=s.row_Row.set k x}
theorem cD {α:Type} {l:List α} {k:Nat} {x:α} (h:l[k]? = some x):k < l.length:=(List.getElem?_eq_some_iff.1 h).1
theorem ui {s:Sto} {k:Nat} {x:bc} (h:k < s.row_Row.length):s.set_row_Row k x=some (s.sr k x):=by
 unfold Sto.set_row_Row;rw [af h];rfl
theorem Fs (s:Sto) (k:Nat) (x:bc):(s.sr k x).row_Row.length=s.row_Row.length:=by simp [Sto.sr]
theorem qP {s:Sto} {k:Nat} {x:bc} (h:k < s.row_Row.length):(s.sr k x).row_Row[k]? = some x:=by simp [Sto.sr,h]
theorem xQ {s:Sto} {k j:Nat} {x:bc} (h:k≠j):(s.sr k x).row_Row[j]? = s.row_Row[j]? :=by simp [Sto.sr,h]
theorem Am (s:Sto) (k:Nat) (x y:bc):(s.sr k x).sr k y=s.sr k y:=by simp [Sto.sr]
theorem xR {s:Sto} {k:Nat} {x:bc} (h:s.row_Row[k]? = some x):s.sr k x=s:=by
 have:s.row_Row.set k x=s.row_Row:=by
  apply bZ;intro j;by_cases hj:k=j
  ·subst hj; rw [bf (cD h),h]
  ·rw [aU hj]
 simp [Sto.sr,this]
theorem AX (s:Sto) (x:bc):(s.add_row_Row x).row_Row[s.row_Row.length]? = some x:=by simp [Sto.add_row_Row]
theorem Gn (s:Sto) (x y:bc):(s.add_row_Row x).sr s.row_Row.length y=s.add_row_Row y:=by simp [Sto.sr,Sto.add_row_Row]
variable {s:Sto} {k:Nat} {l:List aa} {w:Bool}
theorem ig (h:s.row_Row[k]? = some ⟨l,w⟩):bK s (some k)=some (l.length:Int):=by simp [bK,h]
theorem uk {c:aa} (h:c.Text.length≤1000000):kE c=some c:=by
 simp only [kE,dv,cY (show ([]:List Int).length+c.Text.length≤1099511627776 by simp; omega),bsm,bS]
theorem Cp (h:s.row_Row[k]? = some ⟨l,w⟩):ip s (some k)=some w:=by simp [ip,h,bL]
theorem uB (h:s.row_Row[k]? = some ⟨l,w⟩) (on:Bool):eA s (some k) on=some (s.sr k ⟨l,on⟩):=by
 simp [eA,h,ui (cD h)]
theorem qf (h:s.row_Row[k]? = some ⟨l,w⟩) (hl:l.length≤1000000) (hs:Sht l):dQ s (some k)=some l:=by
 unfold dQ;rw [ig h];simp only [bsm];rw [rM (s:=(([]:List aa),(0:Int))) (t:=l) (fun st:List aa×Int=>∃i:Nat,st=(l.take i,(i:Int))∧i≤l.length) (fun st=>l.length - st.2.toNat) ?_ ⟨0,rfl,db _⟩ (by simp)]
 ·rfl
 ·rintro st ⟨i,rfl,hi⟩;rcases aL i l.length with hlt | hge
  ·refine .inl ⟨(l.take (i+1),((i+1:Nat):Int)),?_,⟨i+1,rfl,hlt⟩,by simp; omega⟩;have e3:w64 ((i:Int)+1)=((i+1:Nat):Int):=by rw [aN (by omega)]; simp
   simp only [pf,hlt,jR,bF,bsm,h,bp hlt,uk (hs i hlt),e3];rw [cY (by rw [aA]; simp; omega),ax hlt];rfl
  ·obtain rfl:i=l.length:=by omega
   exact .inr (by simp)
theorem ye (h:s.row_Row[k]? = some ⟨l,w⟩) {i:Nat} (hi:i < l.length) (hs:Sht l):eZ s (some k) i=some (l[i],true):=by
 unfold eZ;rw [ig h];simp only [bsm,bQ];rw [ag (by simp; omega)];simp only [h,bsm,bp hi,uk (hs i hi)]
theorem yd (h:s.row_Row[k]? = some ⟨l,w⟩) (i:Nat):fT s (some k) i=some (kd l i):=by
 unfold fT;rw [ig h];simp only [bsm,bQ];by_cases hi:i < l.length
 ·rw [ag (by simp; omega)];simp only [h,bsm,bp hi,iP hi]
 ·rw [af (by simp; omega),lE (by omega)]
theorem wT (h:s.row_Row[k]? = some ⟨l,w⟩) {i:Nat} (hi:i < l.length) (hl:l.length≤1000000) {c:aa} (hc:c.Text.length≤1000000):
  eV s (some k) i c=some (s.sr k ⟨l.set i c,w && !decide (i+1=l.length)⟩):=by
 unfold eV;have e:w64 (((l.set i c).length:Int) - 1)=(l.length:Int) - 1:=by rw [cf,aN (by omega)]
 simp only [h,bsm,uk hc,bp hi,ib hi,ui (cD h),e];by_cases hn:i+1=l.length
 ·rw [af (by simp; omega),ui (by rw [Fs]; exact cD h),Am];simp [hn]
 ·rw [ag (by simp; omega)];simp [hn]
def sd (n:Int):Nat:=(max 1 (min n 1024)).toNat
theorem uz (n:Int):1≤sd n∧sd n≤1024:=by unfold sd; omega
theorem Ap {n:Nat} (h:1≤n) (h2:n≤1024):sd n=n:=by unfold sd; omega
theorem rd (n:Int):dB n=some (List.replicate (max 0 (min n 1024)).toNat bl):=by
 unfold dB;simp only [fw,dF];rw [ox _ (by omega)];rfl
theorem wU (n:Int):jO s n=some (s.add_row_Row ⟨List.replicate (sd n) bl,false⟩,some s.row_Row.length):=by
 unfold jO;rw [rd];simp only [bsm,fw];rw [show (max 0 (min (max 1 n) 1024)).toNat=sd n by unfold sd; omega]
theorem pi (n:Nat):Snd (List.replicate n bl):=fun i h=>by
 rw [gQ];exact ⟨rfl,fun h=>by simp [bl] at h,fun h=>by simp [bl] at h⟩
theorem Fy (hl:1≤l.length) (hl2:l.length≤1024) (hs:Snd l):pF s l=some (s.add_row_Row ⟨l,false⟩,some s.row_Row.length,Er.nil):=by
 unfold pF;obtain ⟨b,h1,h2⟩:=qU l (by omega);have hb:b=true:=h2.2 hs;subst hb;simp only [bQ,bsm,h1];rw [ag (by rw [aF,aX,an]; omega),ag (by simp),wU,Ap hl hl2];simp only [bsm];rw [rM (s:=((0:Int),s.add_row_Row ⟨List.replicate l.length bl,false⟩)) (t:=s.add_row_Row ⟨l,false⟩) (fun st:Int×Sto=>∃i:Nat,st=((i:Int),s.add_row_Row ⟨l.take i++List.replicate (l.length - i) bl,false⟩)∧i≤l.length) (fun st=>l.length - st.1.toNat) ?_ ⟨0,by simp,db _⟩ (by simp)]
 ·rfl
 ·rintro st ⟨i,rfl,hi⟩;rcases aL i l.length with hlt | hge
  ·refine .inl ⟨_,?_,⟨i+1,rfl,hlt⟩,by simp; omega⟩;have e3:w64 ((i:Int)+1)=((i+1:Nat):Int):=by rw [aN (by omega)]; simp
   have hlen:(l.take i++List.replicate (l.length - i) bl).length=l.length:=by simp; omega
   simp only [pf,hlt,jR,bF,bp hlt,bsm,AX,uk (hs.sht i hlt),e3];rw [bp (show i < (l.take i++List.replicate (l.length - i) bl).length by omega)];simp only [bsm];rw [ib (show i < (l.take i++List.replicate (l.length - i) bl).length by omega)];simp only [bsm];rw [ui (cD (AX _ _)),Gn];simp only [bsm];have:(l.take i++List.replicate (l.length - i) bl).set i l[i]=l.take (i+1)++List.replicate (l.length - (i+1)) bl:=by
    rw [dH _ _ (by rw [aA]; omega),aA,cN hi,dd,show l.length - i=(l.length - (i+1))+1 by omega,List.replicate_succ,qa,ax hlt,aI];rfl
   rw [this]
  ·obtain rfl:i=l.length:=by omega
   exact .inr (by simp)
def tch (l:List aa) (a n j:Nat):Bool:=(decide (a≤j) && decide (j < a+n)) || (decide (kd l j=2) && decide (a≤j+1) && decide (j+1 < a+n)) || (decide (kd l j=3) && decide (a+1≤j) && decide (j < a+n+1))
def pc (l:List aa) (a:Nat) (p:List aa) (j:Nat):aa:=
 if a≤j∧j < a+p.length then p.getD (j - a) bl else if tch l a p.length j=true then bl else l.getD j bl
def pl (l:List aa) (a:Nat) (p:List aa):List aa:=(List.range l.length).map (pc l a p)
def pw (l:List aa) (w:Bool) (a n:Nat):Bool:=w && !(decide (0 < l.length) && tch l a n (l.length - 1))
theorem iG (l:List aa) (a:Nat) (p:List aa):(pl l a p).length=l.length:=by simp [pl]
theorem sK {a:Nat} {p:List aa} {j:Nat} (h:j < l.length):(pl l a p)[j]? = some (pc l a p j):=by simp [pl,h]
theorem E2 {a:Nat} {p:List aa} {j:Nat} (h:j < (pl l a p).length):(pl l a p)[j]=pc l a p j:=by simp [pl]
theorem CU {a:Nat} {p:List aa} {j:Nat} (h:j < l.length):kd (pl l a p) j=(pc l a p j).Kind:=by simp [kd,sK h]
theorem Snd.two (h:Snd l) {j:Nat} (hj:kd l j=2):kd l (j+1)=3:=by
 have hlt:j < l.length:=by
  rcases aL j l.length with h | h
  ·exact h
  ·rw [lE h] at hj; cases hj
 exact (h j hlt).2.1 (by rw [←iP hlt]; exact hj)
theorem Snd.three (h:Snd l) {j:Nat} (hj:kd l j=3):0 < j∧kd l (j - 1)=2:=by
 have hlt:j < l.length:=by
  rcases aL j l.length with h | h
  ·exact h
  ·rw [lE h] at hj; cases hj
 exact (h j hlt).2.2 (by rw [←iP hlt]; exact hj)
theorem tH {j:Nat} (h:kd l j≠0):j < l.length:=by
 rcases aL j l.length with h' | h'
 ·exact h'
 ·exact absurd (lE h') h
theorem Snd.rg (h:Snd l) {j:Nat} (hj:j < l.length):rgt (l.getD j bl)=true:=by
 rw [av,ab hj];exact (h j hj).1
theorem mz (l:List aa) (j:Nat):(l.getD j bl).Kind=kd l j:=by
 rw [av,kd]
 cases l[j]? <;> rfl
theorem Snd.paint {a:Nat} {p:List aa} (h:Snd l) (hp:Snd p) (ha:a+p.length≤l.length):Snd (pl l a p):=fun j hj=>by
 rw [iG] at hj;rw [E2];have kpc:∀i,i < l.length→(pc l a p i).Kind=if a≤i∧i < a+p.length then kd p (i - a) else if tch l a p.length i=true then 0 else kd l i:=fun i hi=>by
  unfold pc;split
  ·exact mz _ _
  ·split
   ·rfl
   ·exact mz _ _
 have kall:∀i,kd (pl l a p) i=if i < l.length then (if a≤i∧i < a+p.length then kd p (i - a) else if tch l a p.length i=true then 0 else kd l i) else 0:=fun i=>by
  by_cases hi:i < l.length
  ·rw [af hi,CU hi,kpc i hi]
  ·rw [ag hi,lE (by rw [iG]; omega)]
 refine ⟨?_,fun h2=>?_,fun h3=>?_⟩
 ·unfold pc;split
  ·exact hp.rg (by omega)
  ·split
   ·rfl
   ·exact h.rg hj
 ·rw [kpc j hj] at h2;rw [kall];by_cases hin:a≤j∧j < a+p.length
  ·rw [af hin] at h2;have h4:=hp.two h2;have h5:j - a+1 < p.length:=tH (by rw [h4]; decide);rw [af (by omega),af (by omega),show j+1 - a=j - a+1 by omega]; exact h4
  ·rw [ag hin] at h2;split at h2
   ·cases h2
   ·rename_i ht
    have h4:=h.two h2;have h5:j+1 < l.length:=tH (by rw [h4]; decide);simp only [tch,h2,jR,fQ,aF,aw,an,CH,FJ] at ht;have h6:¬(a≤j+1∧j+1 < a+p.length):=by omega
    have h7:¬tch l a p.length (j+1)=true:=by
     simp only [tch,h4,aF,aw,an];omega
    rw [af h5,ag h6,ag h7]; exact h4
 ·rw [kpc j hj] at h3;by_cases hin:a≤j∧j < a+p.length
  ·rw [af hin] at h3;have h4:=hp.three h3;refine ⟨by omega,?_⟩;rw [kall,af (by omega),af (by omega),show j - 1 - a=j - a - 1 by omega]; exact h4.2
  ·rw [ag hin] at h3;split at h3
   ·cases h3
   ·rename_i ht
    have h4:=h.three h3;refine ⟨h4.1,?_⟩;simp only [tch,h3,jR,fQ,aF,aw,an,CH,FJ] at ht;have h6:¬(a≤j - 1∧j - 1 < a+p.length):=by omega
    have h7:¬tch l a p.length (j - 1)=true:=by
     simp only [tch,h4.2,aF,aw,an];omega
    rw [kall,af (by omega),ag h6,ag h7]; exact h4.2
theorem sJ (l:List aa) (w:Bool) (a:Nat) (p:List aa) (hl:l.length≤1000000) (ha:a≤1000000) (hp:p.length≤1000000):gb l w a p=some (pl l a p,pw l w a p.length):=by
 unfold gb;rw [rM (s:=(w,([]:List aa),(0:Int))) (t:=(pw l w a p.length,pl l a p)) (fun st:Bool×List aa×Int=>∃i:Nat,st=(if i < l.length then w else pw l w a p.length,(pl l a p).take i,(i:Int))∧i≤l.length) (fun st=>l.length - st.2.2.toNat) ?_ ⟨0,?_,db _⟩ (by simp)]
 ·rfl
 ·rintro st ⟨i,rfl,hi⟩;rcases aL i l.length with hlt | hge
  ·refine .inl ⟨_,?_,⟨i+1,rfl,hlt⟩,by simp; omega⟩;have e3:w64 ((i:Int)+1)=((i+1:Nat):Int):=by rw [aN (by omega)]; simp
   have e4:w64 ((a:Int)+(p.length:Int))=((a+p.length:Nat):Int):=by rw [aN (by omega)]; simp
   have e5:w64 ((i:Int) - (a:Int))=(i:Int) - a:=aN (by omega);have e6:w64 ((i:Int) - 1)=(i:Int) - 1:=aN (by omega);have hd:decide ((i:Int) < (l.length:Int))=true:=by simp; exact hlt
   simp only [hd,bF,af hlt,bp hlt,bsm,aV,bQ,e3,e4,e5,e6];have happ:∀x:aa,x=pc l a p i→app ((pl l a p).take i) [x]=some ((pl l a p).take (i+1)):=fun x hx=>by
    subst hx;rw [cY (by rw [aA,iG]; simp; omega),ax (show i < (pl l a p).length by rw [iG]; exact hlt),E2]
   by_cases hin:a≤i∧i < a+p.length
   ·have c1:(decide ((i:Int)≥a) && decide ((i:Int) < ((a+p.length:Nat):Int)))=true:=by simp; omega
    obtain ⟨q,hq⟩:∃q:Nat,q=i - a:=⟨_,rfl⟩;have c2:(i:Int) - a=(q:Int):=by omega
    have hqp:q < p.length:=by omega
    simp only [c1,bF,c2,bp hqp,bsm,cW,fW,lv,ak,aY,Bool.true_or,wF];rw [happ ⟨p[q].Kind,p[q].Text⟩ (by rw [pc,af hin,←hq,av,ab hqp]; rfl)];by_cases hn:i+1=l.length
    ·have c3:(((i+1:Nat):Int)==(l.length:Int))=true:=by simp; omega
     have c4:pw l w a p.length=false:=by
      have:tch l a p.length (l.length - 1)=true:=by simp [tch]; omega
      simp [pw,this]; omega
     simp only [c3,bF,bsm,c4];rw [ag (by omega)]
    ·have c3:(((i+1:Nat):Int)==(l.length:Int))=false:=by simp; omega
     simp only [c3,ak,aY,bsm];rw [af (show i+1 < l.length by omega)]
   ·have c1:(decide ((i:Int)≥a) && decide ((i:Int) < ((a+p.length:Nat):Int)))=false:=by simp; omega
    have c5:((l[i].Kind==2 && decide (((i+1:Nat):Int)≥a) && decide (((i+1:Nat):Int) < ((a+p.length:Nat):Int))) || (l[i].Kind==3 && decide ((i:Int) - 1≥a) && decide ((i:Int) - 1 < ((a+p.length:Nat):Int))))=tch l a p.length i:=by
     rw [cG];simp only [tch,iP hlt,aF,aw,aX,an];omega
    simp only [c1,ak,aY,bsm,iD,je,km,fQ];simp only [c5]
    cases ht:tch l a p.length i with
    | true=>
     simp only [bF,bsm,wF];rw [happ ⟨0,[]⟩ (by rw [pc,ag hin,af ht]; rfl)];by_cases hn:i+1=l.length
     ·have c3:(((i+1:Nat):Int)==(l.length:Int))=true:=by simp; omega
      have c4:pw l w a p.length=false:=by
       have e:l.length - 1=i:=by omega
       simp [pw,e,ht]; omega
      simp only [c3,bF,bsm,c4];rw [ag (by omega)]
     ·have c3:(((i+1:Nat):Int)==(l.length:Int))=false:=by simp; omega
      simp only [c3,ak,aY,bsm];rw [af (show i+1 < l.length by omega)]
    | false=>
     simp only [ak,aY,bsm,vF];rw [happ ⟨l[i].Kind,l[i].Text⟩ (by rw [pc,ag hin,ag (by simp [ht]),av,ab hlt]; rfl)];by_cases hn:i+1=l.length
     ·have c4:pw l w a p.length=w:=by
       have e:l.length - 1=i:=by omega
       simp [pw,e,ht]
      simp only [bsm,c4,ite_self]
     ·simp only [bsm];rw [af (show i+1 < l.length by omega)]
  ·obtain rfl:i=l.length:=by omega
   refine .inr ?_;have e:(pl l a p).take l.length=pl l a p:=aT (by rw [iG]; exact ao _);simp [e]
 ·by_cases h0:0 < l.length
  ·simp [h0]
  ·simp [h0,pw]
end Go.Proofs.YtidapncdmjppeaaGreatDoor
namespace Go.Proofs.YtidapncdmjppeaaGreatDoor
open Go Go.Lt
variable {s:Sto} {k:Nat} {l p:List aa} {w:Bool}
theorem Bs {i j:Nat} (h:i≠j) (c:aa):kd (l.set i c) j=kd l j:=by simp [kd,aU h]
theorem nL (h:s.row_Row[k]? = some ⟨l,w⟩) (hs:Snd l) (hl:l.length≤1024) (hp:Snd p) {a:Nat} (hn:1≤p.length) (ha:a+p.length≤l.length):
  dA s (some k) a p=some (s.sr k ⟨pl l a p,pw l w a p.length⟩,Er.nil):=by
 unfold dA;have hk:=cD h;obtain ⟨b,hb1,hb2⟩:=qU p (by omega);have hb:b=true:=hb2.2 hp;subst hb;have e1:w64 ((l.length:Int) - (a:Int))=(l.length:Int) - a:=aN (by omega);have e2:w64 ((a:Int)+(p.length:Int))=((a+p.length:Nat):Int):=by rw [aN (by omega)]; simp
 have o1:decide ((a:Int) < 0)=false:=by simp
 have o2:decide ((a:Int) > (l.length:Int))=false:=by simp; omega
 have o3:decide ((p.length:Int) > (l.length:Int) - (a:Int))=false:=by simp; omega
 have o4:((p.length:Int)==0)=false:=by rw [ej]; omega
 simp only [bG,fM,o1,o2,o3,o4,h,e1,e2,hb1,bsm,ak,aY,cW,yd h a];obtain ⟨l1,hl1⟩:∃l1,l1=if kd l a=3 then l.set (a - 1) bl else l:=⟨_,rfl⟩;have hlen1:l1.length=l.length:=by rw [hl1]; split <;> simp
 have left:(if (kd l a==3)=true then (eV s (some k) (w64 ((a:Int) - 1)) (⟨0,([]:List Int)⟩:aa)).bind fun x_60=>(some (x_60):Option (Sto)) else (some (s):Option (Sto)))=some (s.sr k ⟨l1,w⟩):=by
  by_cases h3:kd l a=3
  ·have h4:=hs.three h3;have h5:a < l.length:=tH (by rw [h3]; decide);rw [af (by simpa using h3),show w64 ((a:Int) - 1)=((a - 1:Nat):Int) by rw [aN (by omega)]; omega,wT h (by omega) (by omega) (by simp)];rw [hl1,af h3];have:decide (a - 1+1=l.length)=false:=by simp; omega
   simp only [bsm,this,iD,wF];rfl
  ·rw [ag (by simpa using h3),hl1,ag h3,xR h]
 rw [left];simp only [bsm];obtain ⟨l2,hl2⟩:∃l2,l2=if kd l (a+p.length)=3 then l1.set (a+p.length) bl else l1:=⟨_,rfl⟩;obtain ⟨w2,hw2⟩:∃w2,w2=(w && !(decide (kd l (a+p.length)=3) && decide (a+p.length+1=l.length))):=⟨_,rfl⟩;have hlen2:l2.length=l.length:=by rw [hl2]; split <;> simp [hlen1]
 have hget1:(s.sr k ⟨l1,w⟩).row_Row[k]? = some ⟨l1,w⟩:=qP hk;have hkd1:kd l1 (a+p.length)=kd l (a+p.length):=by
  rw [hl1]; split
  ·exact Bs (by omega) _
  ·rfl
 have right:((fT (s.sr k ⟨l1,w⟩) (some k) ((a+p.length:Nat):Int)).bind fun x_71=>
   if (x_71==3)=true then
   (eV (s.sr k ⟨l1,w⟩) (some k) ((a+p.length:Nat):Int) (⟨0,([]:List Int)⟩:aa)).bind fun x_77=>
   (some (x_77):Option (Sto))
   else
   (some (s.sr k ⟨l1,w⟩):Option (Sto)))=some (s.sr k ⟨l2,w2⟩):=by
  rw [yd hget1,hkd1];simp only [bsm];by_cases h3:kd l (a+p.length)=3
  ·have h5:a+p.length < l.length:=tH (by rw [h3]; decide);rw [af (by simpa using h3),wT hget1 (by omega) (by omega) (by simp)];simp only [bsm,Am];rw [hl2,af h3,hw2,hlen1];simp only [h3,jR,fQ];rfl
  ·rw [ag (by simpa using h3),hl2,ag h3,hw2];simp [h3]
 rw [right];simp only [bsm];rw [rM (s:=((0:Int),s.sr k ⟨l2,w2⟩)) (t:=s.sr k ⟨l2.take a++p++l2.drop (a+p.length),w2 && !decide (a+p.length=l.length)⟩)
  (fun st:Int×Sto=>∃i:Nat,st=((i:Int),s.sr k ⟨l2.take a++p.take i++l2.drop (a+i),w2 && !(decide (0 < i) && decide (a+i=l.length))⟩)∧i≤p.length) (fun st=>p.length - st.1.toNat) ?_ ⟨0,?_,db _⟩ (by simp)]
 ·simp only [bsm,aM,jl,zj]
  congr 1
  congr 1
  ·
   apply bZ;intro j;rcases aL j l.length with hj | hj
   ·rw [sK hj];have g1:∀j,j < l.length→j≠a+p.length→l1[j]? = some (if kd l a=3∧j=a - 1 then bl else l.getD j bl):=fun j hj _=>by
     rw [hl1];split
     ·rename_i h3
      by_cases hja:j=a - 1
      ·subst hja;rw [bf (by omega),af ⟨h3,rfl⟩]
      ·rw [aU (tv hja),ag (fun e=>hja e.2),ab hj,av,ab hj]; rfl
     ·rename_i h3
      rw [ag (fun e=>h3 e.1),ab hj,av,ab hj]; rfl
    have lw:(l2.take a).length=a:=by rw [aA]; omega
    rcases aL j a with hja | hja
    ·rw [aI,aB (by omega),aP,af hja];have e:l2[j]? = l1[j]? :=by
      rw [hl2]; split
      ·exact aU (by omega)
      ·rfl
     have hp0:¬(a≤j∧j < a+p.length):=by omega
     rw [e,g1 j hj (by omega),pc,ag hp0]
     congr 1
     by_cases hc:kd l a=3∧j=a - 1
     ·rw [af hc,af];have h4:=hs.three hc.1;simp only [tch,aF,aw,an];refine .inl (.inr ⟨⟨?_,?_⟩,?_⟩)
      ·rw [hc.2]; exact h4.2
      ·omega
      ·omega
     ·rw [ag hc,ag];simp only [tch,aF,aw,an,CH,FJ];refine ⟨⟨fun h=>by omega,fun h2=>?_⟩,fun h=>by omega⟩;have h3:=hs.two h2.1;have:j+1=a:=by omega
      rw [this] at h3;exact absurd ⟨h3,by omega⟩ hc
    ·rcases aL j (a+p.length) with hjn | hjn
     ·rw [aI,aG (by omega),aB (by omega),lw,pc,af ⟨hja,hjn⟩,av,ab (by omega)];rfl
     ·rw [aG (by rw [aj]; omega),bM,aj,lw,show a+p.length+(j - (a+p.length))=j by omega];rw [pc,ag (by omega)];by_cases hc:kd l (a+p.length)=3∧j=a+p.length
      ·rw [hl2,af hc.1,hc.2,bf (by omega),af];simp only [tch,aF,aw,an];exact .inr ⟨⟨hc.1,by omega⟩,by omega⟩
      ·have e:l2[j]? = some (l.getD j bl):=by
        have e2:l1[j]? = some (l.getD j bl):=by
         rw [hl1]; split
         ·rw [aU (by omega),av,ab hj]; rfl
         ·rw [av,ab hj]; rfl
        rw [hl2]; split
        ·rename_i h3
         rw [aU (fun e=>hc ⟨h3,e.symm⟩),e2]
        ·exact e2
       rw [e,ag];simp only [tch,aF,aw,an,CH,FJ];refine ⟨⟨fun h=>by omega,fun h=>by omega⟩,fun h2=>?_⟩;intro h4;have:j=a+p.length:=by omega
       exact hc ⟨by rw [←this]; exact h2.1,this⟩
   ·rw [aR (l:=pl l a p) (by rw [iG]; exact hj),aR (by simp only [aj,aA,bj]; omega)]
  ·
   rw [hw2,pw,Bool.and_assoc]
   congr 1
   rw [←Bool.not_or]
   congr 1
   have h2:kd l (l.length - 1)≠2:=fun h2=>by
    have:=hs.two h2;rw [show l.length - 1+1=l.length by omega,lE (ao _)] at this;cases this
   rw [cG];simp only [tch,aF,aw,an];constructor
   ·rintro (⟨h3,h4⟩ | h4)
    ·refine ⟨by omega,.inr ⟨⟨?_,by omega⟩,by omega⟩⟩;rw [show l.length - 1=a+p.length by omega]; exact h3
    ·exact ⟨by omega,.inl (.inl ⟨by omega,by omega⟩)⟩
   ·rintro ⟨h0,(⟨h3,h4⟩ | ⟨⟨h3,_⟩,_⟩) | ⟨⟨h3,h4⟩,h5⟩⟩
    ·exact .inr (by omega)
    ·exact absurd h3 h2
    ·by_cases hx:a+p.length=l.length
     ·exact .inr hx
     ·have:l.length - 1=a+p.length:=by omega
      exact .inl ⟨by rw [←this]; exact h3,by omega⟩
 ·rintro st ⟨i,rfl,hi⟩;rcases aL i p.length with hlt | hge
  ·refine .inl ⟨_,?_,⟨i+1,rfl,hlt⟩,by simp; omega⟩;have e3:w64 ((i:Int)+1)=((i+1:Nat):Int):=by rw [aN (by omega)]; simp
   have e4:w64 ((a:Int)+(i:Int))=((a+i:Nat):Int):=by rw [aN (by omega)]; simp
   have hd:decide ((i:Int) < (p.length:Int))=true:=by simp; exact hlt
   have hli:(l2.take a++p.take i++l2.drop (a+i)).length=l.length:=by
    simp only [aj,aA,bj]; omega
   simp only [hd,bF,bp hlt,bsm,e3,e4];rw [wT (qP hk) (by rw [hli]; omega) (by rw [hli]; omega) (hp.sht i hlt)];simp only [bsm,Am,hli];have hset:(l2.take a++p.take i++l2.drop (a+i)).set (a+i) p[i]=l2.take a++p.take (i+1)++l2.drop (a+(i+1)):=by
    have hx:(l2.take a++p.take i).length=a+i:=by simp only [aj,aA]; omega
    rw [dH _ _ (by omega),hx,dd,lD (show a+i < l2.length by omega),qa,ax hlt];simp only [aI,da,bS,rh]
   rw [hset];have hwe:((w2 && !(decide (0 < i) && decide (a+i=l.length))) && !decide (a+i+1=l.length))=(w2 && !(decide (0 < i+1) && decide (a+(i+1)=l.length))):=by
    have:decide (a+i=l.length)=false:=by simp; omega
    rw [this];simp [rh]
   rw [hwe]
  ·obtain rfl:i=p.length:=by omega
   refine .inr ?_;have:decide (0 < p.length)=true:=by simp; omega
   simp [this]
 ·simp
def cl (n:Int) (m:Nat):Nat:=(max 0 (min n m)).toNat
theorem mo (n:Int) (m:Nat):cl n m≤m:=by unfold cl; omega
theorem ya (p:List Int) (hp:p.length≤1000000):io p=some (p.map fp):=by
 unfold io;rw [ox _ (by omega),ox _ (by omega)];simp only [bsm];obtain ⟨t,h1,h2⟩:=dY (σ:=(List Int)×Int) (τ:=List Int) (n:=p.length) (fuel:=((p.length:Int) - 0).toNat+1) (s:=(List.replicate (0:Int).toNat 0,0))
  (fun i q=>q=((p.take i).map fp,(i:Int))) (fun t=>t=p.map fp)
  (step:=fun s_12=>
 if (decide (s_12.2 < (p.length:Int)))=true then
 (idx p s_12.2).bind fun x_15=>
 ((ez x_15).bind fun x_21=>
 if (!x_21)=true then
 (some (65533):Option (Int))
 else
 (some (x_15):Option (Int))).bind fun z_19=>
 (app s_12.1 ([z_19]:List Int)).bind fun x_29=>
 some (.inl (x_29,(w64 (s_12.2+1))))
 else
 some (.inr (s_12.1)))
  (fun i q hi e=>by
   subst e;refine .inl ⟨_,?_,rfl⟩;have e5:w64 ((i:Int)+1)=((i+1:Nat):Int):=by rw [aN (by omega)]; simp
   have hd:decide ((i:Int) < (p.length:Int))=true:=by simp; exact hi
   simp only [hd,bF,bp hi,bsm,sG,e5];have hz:(if (!vld p[i])=true then (some (65533):Option Int) else some p[i])=some (fp p[i]):=by
    unfold fp
    cases vld p[i] <;> rfl
   rw [hz];simp only [bsm];rw [cY (by simp; omega)];simp only [bsm];rw [ax hi,bA];rfl)
  (fun q e=>⟨_,by subst e; simp,rfl⟩)
  rfl (by omega)
 subst h2;rw [h1];rfl
theorem xn (wide:Int) (t:List Int) (ht:t.length≤9223372036854775807):kG wide t=some (di wide (fx t)):=by
 unfold kG;have hz:(if (decide (wide≥2))=true then (app ([(⟨0,([]:List Int)⟩:aa)]:List aa) ([(⟨0,([]:List Int)⟩:aa)]:List aa)).bind fun x_14=>(some (x_14):Option ((List aa))) else
   (some (([(⟨0,([]:List Int)⟩:aa)]:List aa)):Option ((List aa))))=some (if 2≤wide then [bl,bl] else [bl]):=by
  by_cases h:2≤wide
  ·rw [af (by simpa using h),af h,cY (by simp)];rfl
  ·rw [ag (by simpa using h),ag h];rfl
 rw [hz];simp only [bsm];unfold di;by_cases h0:t= []
 ·subst h0;rw [af (show ((([]:List Int).length:Int)==0)=true from rfl),af (show fx []= [] from rfl)];by_cases h:2≤wide
  ·rw [af h,af (show wide > 1 by omega)]
  ·rw [ag h,ag (show ¬(wide > 1) by omega)]
 ·have hl:0 < t.length:=List.length_pos_iff.2 h0;have hf:fx t≠ []:=by
   have:=AJ t;intro h;rw [h,aH] at this;omega
  rw [ag (by rw [aX]; omega),ag hf,dF,show (min (t.length:Int) 16)=((min t.length 16:Nat):Int) by omega,show (0:Int)=((0:Nat):Int) from rfl,sx (db _) (Nat.min_le_left _ _)];simp only [bsm];rw [ya _ (by simp; omega)];have ef:((t.drop 0).take (min t.length 16 - 0)).map fp=fx t:=by
   unfold fx;rw [mZ,zo]
   congr 1
   rcases Nat.le_total t.length 16 with h | h
   ·rw [cN h,aT (ao _),aT h]
   ·rw [Nat.min_eq_right h]
  rw [ef];by_cases h:2≤wide
  ·rw [af h,af (show wide > 1 by omega),show decide (wide≥2)=true by simpa using h];rfl
  ·rw [ag h,ag (show ¬(wide > 1) by omega),show decide (wide≥2)=false by simpa using h];rfl
theorem wg (wide:Int) (t:List Int):1≤(di wide t).length∧(di wide t).length≤2:=by
 unfold di
 repeat' split
 all_goals simp
theorem wO (wide:Int) (t:List Int):Snd (di wide (fx t)):=A2 wide (F6 t) (F7 t)
theorem E8 {t:List Int} (h:∀x∈t,vld x=true) (hl:t.length≤16):fx t=t:=by
 unfold fx;rw [aT hl]
 conv=>rhs; rw [←List.map_id t]
 refine ek fun x hx=>?_;unfold fp;rw [af (h x hx)];rfl
theorem CL (h:s.row_Row[k]? = some ⟨l,w⟩) (hs:Snd l) (hl:l.length≤1024) {a:Nat} (wide:Int) {t:List Int} (ht:t.length≤9223372036854775807) (ha:a+(di wide (fx t)).length≤l.length):
  ku s (some k) a wide t=some (s.sr k ⟨pl l a (di wide (fx t)),pw l w a (di wide (fx t)).length⟩,Er.nil):=by
 unfold ku;rw [xn wide t ht];simp only [bsm];rw [nL h hs hl (wO wide t) (wg wide _).1 ha];rfl
def mat (l:List aa) (i:Int):Option Nat:=if 0≤i∧i < l.length then (if kd l i.toNat=0 then none else if kd l i.toNat=3 then some (i.toNat - 1) else some i.toNat) else none
theorem wV (h:s.row_Row[k]? = some ⟨l,w⟩) {i:Int} (hi:¬(0≤i∧i < l.length)):eZ s (some k) i=some (bl,false):=by
 unfold eZ;rw [ig h];simp only [bsm,bQ];rw [af (by simp; omega)];rfl
theorem FU (hs:Snd l) (j:Nat):kd l j=0∨kd l j=1∨kd l j=2∨kd l j=3:=by
 rcases aL j l.length with h | h
 ·have:=(hs j h).1;unfold rgt at this;rw [iP h];split at this
  ·omega
  ·simp only [aw,aF,an] at this;omega
 ·exact .inl (lE h)
theorem Ej (h:s.row_Row[k]? = some ⟨l,w⟩) (hs:Snd l) (i:Int) (hi: -9223372036854775808≤i∧i≤9223372036854775807):
  nT s (some k) i=some (match mat l i with | some j=>((j:Int),⟨kd l j,(l.getD j bl).Text⟩,true) | none=>(0,⟨0,[]⟩,false)):=by
 unfold nT mat;by_cases hin:0≤i∧i < l.length
 ·obtain ⟨j,rfl⟩:∃j:Nat,i=(j:Int):=⟨i.toNat,by omega⟩;have hj:j < l.length:=by omega
  rw [af hin,ye h hj hs.sht,aZ];have hkd:=iP hj;have hgd:l.getD j bl=l[j]:=by rw [av,ab hj]; rfl
  simp only [bsm,je];by_cases h3:kd l j=3
  ·obtain ⟨p1,p2⟩:=hs.three h3;have hj2:j - 1 < l.length:=by omega
   have hkd2:=iP hj2;rw [af (by rw [aX,←hkd]; exact h3),aN (by omega),show ((j:Int) - 1)=((j - 1:Nat):Int) by omega,ye h hj2 hs.sht];simp only [bsm,je];rw [ag (show ¬kd l j=0 by omega),af h3,ag (by rw [aX,←hkd2]; omega),af (by rw [aX,←hkd2]; exact p2)];simp only;rw [p2,av,ab hj2];rfl
  ·rw [ag (by rw [aX,←hkd]; exact h3)];simp only [bsm,je];rcases FU hs j with h0 | h1 | h2 | h4
   ·rw [ag (by rw [aX,←hkd]; omega),ag (by rw [aX,←hkd]; omega),af h0]
   ·rw [af (by rw [aX,←hkd]; exact h1),ag (by omega),ag h3];simp only;rw [h1,hgd]
   ·rw [ag (by rw [aX,←hkd]; omega),af (by rw [aX,←hkd]; exact h2),ag (by omega),ag h3];simp only;rw [h2,hgd]
   ·exact absurd h4 h3
 ·rw [ag hin,wV h hin];rfl
theorem Fg (n:Int):0≤IntKind.u64.wrap n∧IntKind.u64.wrap n < 18446744073709551616:=by
 simp only [IntKind.wrap,IntKind.signed,IntKind.bits,lv,ak,aY];omega
theorem Cz {a j:Nat} (h:a≤j∧j < a+p.length):pc l a p j=p.getD (j - a) bl:=by unfold pc; rw [af h]
theorem FE {a j:Nat} (h:¬(a≤j∧j < a+p.length)):pc l a p j=if tch l a p.length j=true then bl else l.getD j bl:=by unfold pc; rw [ag h]
end Go.Proofs.YtidapncdmjppeaaGreatDoor
namespace Go.Proofs.YtidapncdmjppeaaGreatDoor
open Go Go.Lt
def brt (t:List Int):List Int:=t.filter fun r=>r != 32
def brc (l:List aa):List Int:=l.flatMap fun c=>brt c.Text
def bri (l:List aD):List Int:=l.flatMap fun c=>brt c.Text
theorem ut (a b:List Int):brt (a++b)=brt a++brt b:=List.filter_append ..
theorem sm (a b:List aa):brc (a++b)=brc a++brc b:=lM ..
theorem uu (a b:List aD):bri (a++b)=bri a++bri b:=lM ..
theorem lU {c:aa} (h:rgt c=true):(c.Kind=0∧c.Text= [])∨(c.Kind=3∧c.Text= [])∨((c.Kind=1∨c.Kind=2)∧1≤c.Text.length∧c.Text.length≤16∧c.Text.all vld=true):=by
 unfold rgt at h;split at h
 ·rename_i k
  have ht:c.Text= []:=by simpa using h
  rcases k with k | k
  ·exact .inl ⟨k,ht⟩
  ·exact .inr (.inl ⟨k,ht⟩)
 ·simp only [aw,aF,an] at h;exact .inr (.inr ⟨h.1.1.1,h.1.1.2,h.1.2,h.2⟩)
def Rgs (l:List aa):Prop:=∀c∈l,rgt c=true
theorem Snd.rgs {l:List aa} (h:Snd l):Rgs l:=fun c hc=>by
 obtain ⟨i,hi,rfl⟩:=List.mem_iff_getElem.1 hc;exact (h i hi).1
theorem EQ {c:aa} (h:rgt c=true):brt (txt c)=brt c.Text:=by
 unfold txt;rcases lU h with ⟨a,b⟩ | ⟨a,b⟩ | ⟨a,_⟩
 ·rw [af a,b]; rfl
 ·rw [ag (by omega),ag (by omega),b]
 ·rw [ag (by omega),af a]
theorem C7 {l:List aa} (h:Rgs l):brt (flat l)=brc l:=by
 unfold flat brc
 induction l with
 | nil=>rfl
 | cons c l ih=>
  rw [kK,kK,ut,ih fun d hd=>h d (iW _ hd),EQ (h c mj)]
theorem qL {d:Bool} {l:List aa} (h:Rgs l):∀n,n≤l.length→brc (l.take (jV d l n))=brc (l.take n)
 | 0,_=>rfl
 | n+1,hn=>by
  have hi:n < l.length:=by omega
  rw [mH hi];split
  ·rfl
  ·rename_i q
   have hk:l[n].Kind=0:=by
    by_cases a:l[n].Kind=0
    ·exact a
    ·exact absurd (.inl a) q
   have ht:l[n].Text= []:=by
    rcases lU (h _ (aJ hi)) with ⟨_,b⟩ | ⟨a,_⟩ | ⟨a,_⟩
    ·exact b
    ·omega
    ·omega
   rw [qL h n (by omega),ax hi,sm];simp [brc,ht,brt]
theorem AM {d:Bool} {l:List aa} (h:Rgs l):brt (flat (oE d l))=brc l:=by
 have hs:Rgs (oE d l):=fun c hc=>h c (dP hc);rw [C7 hs];unfold oE;rw [qL h _ (ao _),dW]
def gB (L:List ah):Nat→List (List Int)×List Int
 | 0=>([],[])
 | i+1=>match L[i]? with
  | some l=>if wr L i=true then ((gB L i).1,(gB L i).2++brc l.Cells) else ((gB L i).1++ [(gB L i).2++brc l.Cells],[])
  | none=>gB L i
variable {L:List ah} {i:Nat}
theorem C5 (hi:i < L.length) (h:wr L i=true):gB L (i+1)=((gB L i).1,(gB L i).2++brc L[i].Cells):=by
 show (match L[i]? with | some l=>if wr L i=true then ((gB L i).1,(gB L i).2++brc l.Cells) else ((gB L i).1++ [(gB L i).2++brc l.Cells],[]) | none=>gB L i)=_;rw [ab hi];simp only [h,bF]
theorem xi (hi:i < L.length) (h:wr L i=false):gB L (i+1)=((gB L i).1++ [(gB L i).2++brc L[i].Cells],[]):=by
 show (match L[i]? with | some l=>if wr L i=true then ((gB L i).1,(gB L i).2++brc l.Cells) else ((gB L i).1++ [(gB L i).2++brc l.Cells],[]) | none=>gB L i)=_;rw [ab hi];simp only [h,ak,aY]
theorem zx (h:∀l∈L,Rgs l.Cells):∀i,i≤L.length→(stL L i).1.map brt=(gB L i).1∧brt (stL L i).2=(gB L i).2
 | 0,_=>⟨rfl,rfl⟩
 | i+1,hi=>by
  have hi':i < L.length:=by omega
  obtain ⟨h1,h2⟩:=zx h i (by omega);have hc:=h _ (aJ hi')
  cases hw:wr L i with
  | true=>
   rw [wL hi' hw,C5 hi' hw];exact ⟨h1,by simp only; rw [ut,h2,AM hc]⟩
  | false=>
   rw [rt hi' hw,xi hi' hw];refine ⟨?_,rfl⟩;simp only [bA,eB,tz];rw [h1,ut,h2,AM hc]
def gS (a:List (List Int)×List Int) (l:ah):List (List Int)×List Int:=if l.Wrap=true then (a.1,a.2++brc l.Cells) else (a.1++ [a.2++brc l.Cells],[])
def gW (a:List (List Int)×List Int) (L:List ah):List (List Int)×List Int:=L.foldl gS a
theorem E7 (h:∀q:L≠ [],(L.getLast q).Wrap=false):∀i,i≤L.length→gB L i=gW ([],[]) (L.take i)
 | 0,_=>rfl
 | i+1,hi=>by
  have hi':i < L.length:=by omega
  have hr:wr L i=L[i].Wrap:=by
   rw [wd hi'];by_cases e:i+1 < L.length
   ·simp [e]
   ·have hn:L≠ []:=by rintro rfl; simp at hi'
    have:=h hn;rw [List.getLast_eq_getElem] at this;have e2:L.length - 1=i:=by omega
    simp only [e2] at this;rw [this];rfl
  have ih:=E7 h i (by omega);rw [ax hi'];unfold gW at ih⊢;rw [gu,←ih];show _=gS (gB L i) L[i];unfold gS
  cases hw:L[i].Wrap with
  | true=>rw [C5 hi' (by rw [hr,hw])]; rfl
  | false=>rw [xi hi' (by rw [hr,hw])]; rfl
structure Lng (L:List ah) (b:List Int):Prop where
 ex:∃A z,L=A++ [z]∧(∀l∈A,l.Wrap=true)∧z.Wrap=false
 br:L.flatMap (fun l=>brc l.Cells)=b
theorem yE:∀(A:List ah) (a:List (List Int)×List Int),(∀l∈A,l.Wrap=true)→gW a A=(a.1,a.2++A.flatMap fun l=>brc l.Cells)
 | [],a,_=>by simp [gW]
 | l :: A,a,h=>by
  have hl:=h l mj;show gW (gS a l) A=_;rw [yE A _ fun x hx=>h x (iW _ hx)];unfold gS;rw [af hl,kK,aI]
theorem FZ {L:List ah} {b:List Int} (h:Lng L b) (x:List (List Int)):gW (x,[]) L=(x++ [b],[]):=by
 obtain ⟨A,z,rfl,h1,h2⟩:=h.ex;have hb:=h.br;unfold gW;rw [gu];show gS (gW (x,[]) A) z=_;rw [yE A _ h1];unfold gS;rw [ag (by rw [h2]; simp)];simp only [bS];rw [←hb];simp
theorem AW (t:List Int) (h:t.length≤1000000000):eN t=some (brt t):=by
 unfold eN;refine qh (n:=t.length) (fun i a=>a=(brt (t.take i),(i:Int))) (fun u=>u=brt t) (fun i a hi e=>?_) (fun a e=>?_) rfl (by omega) (fun u e=>by rw [e])
 ·left
  subst e;simp only;rw [af (dlt hi),bp hi,bsm,dL hi (by omega)];have e1:brt (t.take (i+1))=brt (t.take i)++brt [t[i]]:=by rw [ax hi,ut]
  by_cases q:t[i]=32
  ·rw [ag (by simp [q]),bsm];refine ⟨_,rfl,?_⟩;rw [e1,q];simp [brt]
  ·have hl:(brt (t.take i)).length≤i:=by
    have:=List.length_filter_le (fun r=>r != 32) (t.take i);rw [aA] at this;unfold brt;omega
   rw [af (by simpa using q),bsm,cY (by simp only [az,aH]; omega),bsm,bsm];refine ⟨_,rfl,?_⟩;rw [e1];have:brt [t[i]]= [t[i]]:=by simp [brt,q]
   rw [this]
 ·subst e;exact ⟨_,by simp only; rw [ag (by simp)],by rw [dW]⟩
end Go.Proofs.YtidapncdmjppeaaGreatDoor
namespace Go.Proofs.YtidapncdmjppeaaGreatDoor
open Go Go.Lt
def itr (x:aD):Prop:=(x.Text= []∧x.Wide=1)∨((x.Wide=1∨x.Wide=2)∧x.Text≠ []∧rgt ⟨1,x.Text⟩=true)
theorem yv {x:aD} (h:itr x):jZ x=some true:=by
 unfold jZ;rcases h with ⟨h1,h2⟩ | ⟨h1,h2,h3⟩
 ·rw [h1,h2]; rfl
 ·have hl:((x.Text.length:Int)==0)=false:=by
   have:=List.length_pos_iff.2 h2;rw [ej];omega
  rw [hl,ag (by simp),aV,bsm,ag (by rcases h1 with e | e <;> rw [e] <;> decide),vf,h3];rfl
theorem Av {c:aa} (h:rgt c=true) (hk:c.Kind=1∨c.Kind=2):rgt ⟨1,c.Text⟩=true∧c.Text≠ []:=by
 rcases lU h with ⟨a,_⟩ | ⟨a,_⟩ | ⟨_,a,b,d⟩
 ·omega
 ·omega
 ·refine ⟨?_,fun e=>by rw [e] at a; simp at a⟩;unfold rgt;rw [ag (by simp)];simp only [a,b,d,jR,Bool.true_or,Bool.and_self]
theorem Di (t:List Int) (h:t.length≤1000000):dv t=some t:=by
 unfold dv;rw [cY (by simp only [aH]; omega),bS]
structure Ito (l:List aa) (i:Nat) (out:List aD):Prop where
 br:bri out=brc (l.take i)
 ok:∀x∈out,itr x
 len:out.length≤i
 lead:0 < i→kd l (i - 1)=2→∃o x,out=o++ [x]∧x.Text≠ []∧rgt ⟨1,x.Text⟩=true
theorem CW {l:List aa} (h:Snd l) (hl:l.length≤1024):∃out,lK l=some (out,Er.nil)∧bri out=brc l∧(∀x∈out,itr x)∧out.length≤l.length:=by
 obtain ⟨b,hb,hb2⟩:=qU l (by omega);obtain rfl:=hb2.2 h
 suffices q:∃r,lK l=some r∧r.2=Er.nil∧bri r.1=brc l∧(∀x∈r.1,itr x)∧r.1.length≤l.length by
  obtain ⟨r,h1,h2,h3⟩:=q;exact ⟨r.1,by rw [h1,←h2],h3⟩
 unfold lK;rw [hb,bsm,ag (by simp)];refine kA (n:=l.length) (fun i (a:List aD×Int)=>a.2=(i:Int)∧Ito l i a.1) (fun u=>Ito l l.length u) (fun i a hi hI=>?_) (fun a hI=>?_) ⟨rfl,⟨rfl,fun x hx=>(by cases hx),ao 0,fun h=>absurd h (by omega)⟩⟩ (by omega) (fun u hu=>?_)
 ·obtain ⟨out,i'⟩:=a;obtain ⟨e,hO⟩:=hI;simp only at e hO;subst e
  left
  have hr:=(h i hi).1;have hlen:=hO.len;have ht:brc (l.take (i+1))=brc (l.take i)++brt l[i].Text:=by
   rw [ax hi,sm];simp [brc]
  simp only;rw [af (dlt hi),bp hi,bsm,dL hi (by omega)];by_cases k3:l[i].Kind=3
  ·rw [af (by simpa using k3)];obtain ⟨p0,p2⟩:=h.three (j:=i) (by rw [iP hi]; exact k3);obtain ⟨o,x,rfl,hx,hx2⟩:=hO.lead p0 p2;have hT:l[i].Text= []:=by
    rcases lU hr with ⟨a,_⟩ | ⟨_,a⟩ | ⟨a,_⟩
    ·omega
    ·exact a
    ·omega
   have hw:w64 (((o++ [x]).length:Int) - 1)=(o.length:Int):=by
    rw [aj] at hlen⊢;simp only [az,aH] at hlen⊢;rw [aN (by omega)];omega
   have hix:idx (o++ [x]) (o.length:Int)=some x:=by
    rw [un];simp
   have hst:jp (o++ [x]) (o.length:Int) (⟨2,x.Text⟩:aD)=some (o++ [⟨2,x.Text⟩]):=by
    rw [ib (by simp)];simp
   rw [hw,hix,bsm,hst,bsm,bsm];refine ⟨_,rfl,rfl,?_,fun y hy=>?_,?_,fun _ hk=>?_⟩
   ·rw [ht,←hO.br,hT];simp [bri,brt]
   ·rcases List.mem_append.1 hy with q | q
    ·exact hO.ok y (de _ q)
    ·rw [List.mem_singleton.1 q];exact .inr ⟨.inr rfl,hx,hx2⟩
   ·simp only [aj,az,aH] at hlen⊢;omega
   ·rw [pZ,iP hi] at hk;omega
  ·have hTl:l[i].Text.length≤16:=by
    rcases lU hr with ⟨_,a⟩ | ⟨_,a⟩ | ⟨_,_,a,_⟩
    ·rw [a]; simp
    ·rw [a]; simp
    ·exact a
   rw [ag (by simpa using k3),Di _ (by omega),bsm,cY (by simp only [az,aH]; omega),bsm,bsm];refine ⟨_,rfl,rfl,?_,fun y hy=>?_,?_,fun _ hk=>?_⟩
   ·rw [ht,uu,hO.br];simp [bri]
   ·rcases List.mem_append.1 hy with q | q
    ·exact hO.ok y q
    ·rw [List.mem_singleton.1 q];rcases lU hr with ⟨_,a⟩ | ⟨a,_⟩ | ⟨a,_⟩
     ·exact .inl ⟨a,rfl⟩
     ·omega
     ·obtain ⟨r1,r2⟩:=Av hr a;exact .inr ⟨.inl rfl,r2,r1⟩
   ·simp only [aj,az,aH];omega
   ·rw [pZ,iP hi] at hk;obtain ⟨r1,r2⟩:=Av hr (.inr hk);exact ⟨out,_,rfl,r2,r1⟩
 ·obtain ⟨out,i'⟩:=a;obtain ⟨e,hO⟩:=hI;simp only at e hO;subst e;exact ⟨_,by simp only; rw [ag (by simp)],hO⟩
 ·have hbr:=hu.br;rw [dW] at hbr;exact ⟨_,rfl,rfl,hbr,hu.ok,hu.len⟩
theorem Bu {σ τ β:Type} {step:σ→Option (σ ⊕ τ)} (Inv:σ→Prop) (μ:σ→Nat) (post:τ→Prop) {fuel:Nat} {s:σ} {k:τ→Option β} {p:β→Prop}
  (h:∀s,Inv s→(∃s',step s=some (.inl s')∧Inv s'∧μ s' < μ s)∨∃t,step s=some (.inr t)∧post t) (h0:Inv s) (hf:μ s < fuel) (hk:∀t,post t→∃r,k t=some r∧p r):∃r,(cO fuel step s).bind k=some r∧p r:=by
 obtain ⟨t,h1,h2⟩:=nO Inv μ post h fuel s h0 hf;rw [h1];exact hk t h2
theorem ze (x:aD):fU x=some (decide (x.Text.length=0)):=by
 unfold fU
 congr 1
 rw [cG];simp
theorem zR (x:List aD) (on:Bool) (hx:x.length≤1900):∃y,iq x on=some y∧bri y=bri x∧(∀a∈y,a∈x)∧y.length≤x.length:=by
 have drop:∀{z:List aD} {n:Nat} (hn:n+1=z.length),(z[n]'(by omega)).Text.length=0→bri (z.take n)=bri z:=by
  intro z n hn ht
  conv=>rhs; rw [←iE n z,uu]
  have hd:z.drop n= [z[n]'(by omega)]:=by
   rw [lD (by omega),List.drop_eq_nil_of_le (by omega)]
  rw [hd];have:=bW ht;simp [bri,this,brt]
 have hsl:∀{z:List aD} {n:Nat},n≤z.length→slc z 0 (n:Int)=some (z.take n):=fun {z n} hn=>by
  have:=sx (xs:=z) (i:=0) (j:=n) (by omega) hn;simpa using this
 have loop:∃y,((cO (σ:=(List aD)) (τ:=(List aD)) (2000) (fun s_26=>
   (bL (!on) (some (decide ((s_26.length:Int) > 0)))).bind fun d_29=>
   (bL d_29 ((idx s_26 (w64 ((s_26.length:Int) - 1))).bind fun x_40=>
   (fU x_40).bind fun x_42=>
   some x_42)).bind fun d_34=>
   if d_34=true then
   (slc s_26 0 (w64 ((s_26.length:Int) - 1))).bind fun x_48=>
   some (.inl (x_48))
   else
   some (.inr (s_26))) (x)).bind fun o_26=>some o_26)=some y∧bri y=bri x∧(∀a∈y,a∈x)∧y.length≤x.length:=by
  refine Bu (fun s=>bri s=bri x∧(∀a∈s,a∈x)∧s.length≤x.length) (fun s=>s.length) (fun t=>bri t=bri x∧(∀a∈t,a∈x)∧t.length≤x.length) (fun s hI=>?_) ⟨rfl,fun _ h=>h,ao _⟩ (by omega) (fun t h2=>⟨t,rfl,h2⟩)
  ·obtain ⟨i1,i2,i3⟩:=hI;rw [aV,bsm]
   cases hn:s.length with
   | zero=>
    right
    have hd:(!on && decide (((0:Nat):Int) > 0))=false:=by simp
    rw [hd,fW,bsm,ag (by simp)];exact ⟨_,rfl,i1,i2,i3⟩
   | succ n=>
    have hi:n < s.length:=by omega
    have hw:w64 (((n+1:Nat):Int) - 1)=(n:Int):=by rw [aN (by omega)]; omega
    rw [hw,bp hi,bsm,ze,bsm];have hd:decide (((n+1:Nat):Int) > 0)=true:=by rw [an]; omega
    rw [hd,wF,aV,bsm];by_cases q:(!on && decide (s[n].Text.length=0))=true
    ·left
     rw [af q,hsl (by omega),bsm];have qt:s[n].Text.length=0:=ky (aw _ _▸ q).2;exact ⟨_,rfl,⟨by rw [drop (by omega) qt,i1],fun a ha=>i2 a (dP ha),by rw [aA]; omega⟩,by rw [aA]; omega⟩
    ·right
     rw [ag q];exact ⟨_,rfl,i1,i2,i3⟩
 unfold iq;rw [aV,bsm]
 cases hn:x.length with
 | zero=>
  have hd:(on && decide (w64 (((0:Nat):Int) - 1)≥0))=false:=by
   rw [aN (by omega)];simp
  rw [hd,fW,bsm,ag (by simp)];rw [hn] at loop;exact loop
 | succ n=>
  have hi:n < x.length:=by omega
  have hw:w64 (((n+1:Nat):Int) - 1)=(n:Int):=by rw [aN (by omega)]; omega
  rw [hw,bp hi,bsm,ze,bsm,aV,bsm];by_cases q:(on && decide ((n:Int)≥0) && decide (x[n].Text.length=0))=true
  ·rw [af q,hsl (by omega),bsm];have qt:x[n].Text.length=0:=ky (aw _ _▸ q).2;exact ⟨_,rfl,drop (by omega) qt,fun a ha=>dP ha,by rw [aA]; omega⟩
  ·rw [ag q];rw [hn] at loop;exact loop
end Go.Proofs.YtidapncdmjppeaaGreatDoor
namespace Go.Proofs.YtidapncdmjppeaaGreatDoor
open Go Go.Lt
def nit (l:List (List aD)):Nat:=(l.map List.length).sum
theorem ul (a b:List (List aD)):nit (a++b)=nit a+nit b:=by simp [nit]
theorem xa (x:List aD):nit [x]=x.length:=by simp [nit]
variable {L:List ah} {i:Nat}
theorem F5:∀i,i≤L.length→bgL L i=false→(gB L i).2= []
 | 0,_,_=>rfl
 | i+1,h,hb=>by rw [xi (by omega) hb]
structure Lgo (L:List ah) (i:Nat) (out:List (List aD)):Prop where
 br:out.map bri=if bgL L i=true then (gB L i).1++ [(gB L i).2] else (gB L i).1
 ok:∀x∈out,∀a∈x,itr a
 n:nit out≤60 * i
 l:out.length≤i
theorem Ek (h:∀l∈L,Snd l.Cells∧l.Cells.length≤60) (hn:L.length≤60):∃out,jc L=some (out,Er.nil)∧out.map bri=(gB L L.length).1∧(∀x∈out,∀a∈x,itr a)∧nit out≤3600∧out.length≤60:=by
 suffices q:∃r,jc L=some r∧r.2=Er.nil∧Lgo L L.length r.1 by
  obtain ⟨r,h1,h2,h3⟩:=q;have hb:bgL L L.length=false:=by
   cases hl:L.length with
   | zero=>rfl
   | succ m=>
    show wr L m=false;rw [wd (by omega),show decide (m+1 < L.length)=false by simp; omega,vF]
  have h4:=h3.br;rw [ag (by rw [hb]; simp)] at h4;have h5:=h3.n;have h6:=h3.l;exact ⟨r.1,by rw [h1,←h2],h4,h3.ok,by omega,by omega⟩
 unfold jc;refine kA (n:=L.length) (fun i (a:List (List aD)×Bool×Int)=>a.2.1=bgL L i∧a.2.2=(i:Int)∧Lgo L i a.1) (fun u=>∃o,u= .inr o∧Lgo L L.length o) (fun i a hi hI=>?_) (fun a hI=>?_) ⟨rfl,rfl,⟨rfl,fun x hx=>(by cases hx),ao 0,ao 0⟩⟩ (by omega) (fun u hu=>?_)
 ·obtain ⟨out,bg,i'⟩:=a;obtain ⟨e1,e2,hO⟩:=hI;simp only at e1 e2 hO;subst e1 e2
  left
  obtain ⟨hs,hw⟩:=h _ (aJ hi);obtain ⟨got,g1,g2,g3,g4⟩:=CW hs (by omega);obtain ⟨y,y1,y2,y3,y4⟩:=zR got (wr L i) (by omega);have hOl:=hO.l;have hOn:=hO.n;simp only;rw [af (dlt hi),bp hi,bsm,g1,bsm];simp only [Er.isNil,cW,ak,aY];obtain ⟨o,x,hz,o1,x1,ok1,n1,l1⟩:∃o x,(if (!bgL L i)=true then (app out ([[]]:List (List aD))).bind fun x_47=>some x_47 else some out)=some (o++ [x])∧o.map bri=(gB L i).1∧bri x=(gB L i).2∧(∀z∈o++ [x],∀a∈z,itr a)∧nit o+x.length≤60 * i∧o.length≤i:=by
   have hb:=hO.br
   cases hg:bgL L i with
   | false=>
    rw [hg,ag (by simp)] at hb;rw [af (by rfl),cY (by simp only [az,aH]; omega),bsm];refine ⟨out,[],rfl,hb,by rw [F5 i (by omega) hg]; rfl,fun z hz=>?_,by simp only [aH]; omega,hOl⟩;rcases List.mem_append.1 hz with q | q
    ·exact hO.ok z q
    ·rw [List.mem_singleton.1 q];exact fun a ha=>(by cases ha)
   | true=>
    rw [hg,af rfl] at hb;rw [ag (by simp)];rcases List.eq_nil_or_concat out with rfl | ⟨o,x,rfl⟩
    ·simp at hb
    ·rw [List.concat_eq_append] at *;rw [bA,eB,tz] at hb;obtain ⟨b1,b2⟩:=List.append_inj' hb rfl;refine ⟨o,x,rfl,b1,by simpa using b2,hO.ok,by rw [ul,xa] at hOn; omega,by rw [aj] at hOl; omega⟩
  have hd:(bL L[i].Wrap (some (decide ((i:Int) < (w64 ((L.length:Int) - 1))))))=some (wr L i):=by
   rw [aV,wd hi,aN (by omega)]
   congr 2
   rw [ny];omega
  have hz2:w64 (((o++ [x]).length:Int) - 1)=(o.length:Int):=by
   rw [aj,aN (by simp only [az,aH]; omega)];simp only [az,aH];omega
  have hix:idx (o++ [x]) (o.length:Int)=some x:=by
   rw [un];simp
  have hst:jp (o++ [x]) (o.length:Int) (x++y)=some (o++ [x++y]):=by
   rw [ib (by simp)];simp
  rw [hz,bsm,hd,bsm,hz2,hix,bsm,y1,bsm,cY (by omega),bsm,hst,bsm,dL hi (by omega)];refine ⟨_,rfl,rfl,rfl,?_,fun z hzm a ha=>?_,?_,?_⟩
  ·have hb1:bgL L (i+1)=wr L i:=rfl;simp only;rw [bA,eB,tz,o1,uu,x1,y2,g2,hb1]
   cases hwr:wr L i with
   | true=>rw [af rfl,C5 hi hwr]
   | false=>rw [ag (by simp),xi hi hwr]
  ·rcases List.mem_append.1 hzm with q | q
   ·exact ok1 z (de _ q) a ha
   ·rw [List.mem_singleton.1 q] at ha;rcases List.mem_append.1 ha with r | r
    ·exact ok1 x (by simp) a r
    ·exact g3 a (y3 a r)
  ·simp only;rw [ul,xa,aj];omega
  ·simp only [aj,az,aH];omega
 ·obtain ⟨out,bg,i'⟩:=a;obtain ⟨e1,e2,hO⟩:=hI;simp only at e1 e2 hO;subst e1 e2;exact ⟨_,by simp only; rw [ag (by simp)],out,rfl,hO⟩
 ·obtain ⟨o,rfl,hO⟩:=hu;exact ⟨_,rfl,rfl,hO⟩
def adr (s:Sto) (b:bV):Sto:=s.add_reflow_breaker b
theorem ql (s:Sto) (b:bV):(adr s b).reflow_breaker[s.reflow_breaker.length]? = some b:=by
 unfold adr Sto.add_reflow_breaker;simp
theorem xF (s:Sto) (b b':bV):(adr s b).set_reflow_breaker s.reflow_breaker.length b'=some (adr s b'):=by
 unfold adr Sto.add_reflow_breaker Sto.set_reflow_breaker;simp
structure Brs (W:Nat) (out:List ah) (line:List aa) (b:List Int) (k:Nat):Prop where
 wr:∀l∈out,l.Wrap=true
 ok:∀l∈out,l.Cells.length≤W∧Rgs l.Cells
 ln:line.length≤W
 lr:Rgs line
 br:out.flatMap (fun l=>brc l.Cells)++brc line=b
 n:out.length≤k
theorem AV (n:Nat):brc (List.replicate n bl)= []:=by
 unfold brc;rw [List.flatMap_eq_nil_iff];intro c hc;rw [(List.mem_replicate.1 hc).2];rfl
theorem wW {a b:List aa} (ha:Rgs a) (hb:Rgs b):Rgs (a++b):=fun c hc=>(List.mem_append.1 hc).elim (ha c) (hb c)
theorem Da (s:Sto) {W:Nat} (hW:W≤1024) {out:List ah} {line:List aa} (hl:line.length≤W) (ho:out.length≤1000000) (on:Bool):ee (adr s ⟨(W:Int),out,line⟩) (some s.reflow_breaker.length) on=some (adr s ⟨(W:Int),out++ [⟨line++List.replicate (W - line.length) bl,on⟩],[]⟩):=by
 unfold ee;simp only [bsm,ql];rw [aN (by omega),rd];have e:(max 0 (min ((W:Int) - (line.length:Int)) 1024)).toNat=W - line.length:=by omega
 rw [e];simp only [bsm];rw [cY (by rw [er]; omega)];simp only [bsm];rw [cY (by simp only [az,aH]; omega)];simp only [bsm,xF]
theorem A0 {x:aD} (h:itr x):kG x.Wide x.Text=some (di x.Wide x.Text)∧1≤(di x.Wide x.Text).length∧(di x.Wide x.Text).length≤2∧Rgs (di x.Wide x.Text)∧brc (di x.Wide x.Text)=brt x.Text:=by
 have hf:fx x.Text=x.Text∧x.Text.length≤16:=by
  rcases h with ⟨h1,_⟩ | ⟨_,h1,h2⟩
  ·rw [h1]; exact ⟨rfl,by simp⟩
  ·rcases lU h2 with ⟨a,_⟩ | ⟨a,_⟩ | ⟨_,_,b,d⟩
   ·cases a
   ·cases a
   ·exact ⟨E8 (fun y hy=>List.all_eq_true.1 d y hy) b,b⟩
 have h1:=xn x.Wide x.Text (by omega);rw [hf.1] at h1;have h2:=wg x.Wide x.Text;have h3:=(wO x.Wide x.Text).rgs;rw [hf.1] at h3;refine ⟨h1,h2.1,h2.2,h3,?_⟩;unfold di
 repeat' split
 all_goals simp_all [brc,brt,bl]
theorem D4 (s:Sto) {W:Nat} (hW:W≤1024) (hW2:2≤W) {out:List ah} {line:List aa} {b:List Int} {k:Nat} (hB:Brs W out line b k) (hk:k≤100000) {x:aD} (hx:itr x):
  ∃out' line',fa (adr s ⟨(W:Int),out,line⟩) (some s.reflow_breaker.length) x=some (adr s ⟨(W:Int),out',line'⟩)∧Brs W out' line' (b++brt x.Text) (k+1):=by
 obtain ⟨c1,c2,c3,c4,c5⟩:=A0 hx;have hn:=hB.n;have hl:=hB.ln;unfold fa;rw [c1];simp only [bsm,ql];rw [ag (by rw [an]; omega)];simp only [bsm,ql];rw [aN (by omega)];by_cases q:((di x.Wide x.Text).length:Int) > (W:Int) - (line.length:Int)
 ·rw [af (by rw [an]; exact q),Da s hW hl (by omega)];simp only [bsm,ql];rw [cY (by simp only [aH]; omega)];simp only [bsm,xF,bS];refine ⟨_,_,rfl,fun l hm=>?_,fun l hm=>?_,by omega,c4,?_,by simp only [aj,az,aH]; omega⟩
  ·rcases List.mem_append.1 hm with r | r
   ·exact hB.wr l r
   ·rw [List.mem_singleton.1 r]
  ·rcases List.mem_append.1 hm with r | r
   ·exact hB.ok l r
   ·rw [List.mem_singleton.1 r];exact ⟨by simp only [aj,er]; omega,wW hB.lr (pi _).rgs⟩
  ·rw [lM,←hB.br,c5];simp only [kK,HZ,dy];rw [sm,AV,dy]
 ·rw [ag (by rw [an]; exact q)];simp only [bsm,ql];rw [cY (by omega)];simp only [bsm,xF];exact ⟨_,_,rfl,hB.wr,hB.ok,by rw [aj]; omega,wW hB.lr c4,by rw [sm,c5,←aI,hB.br],by omega⟩
theorem Dt (s:Sto) {W:Nat} (hW:W≤1024) (hW2:2≤W) {w:Int} (hw:aW 1 (aO w 1024)=(W:Int)) (x:List aD) (hx:∀a∈x,itr a) (hl:x.length≤10000):
  ∃s' R,iu s x w=some (s',R,Er.nil)∧Lng R (bri x)∧(∀l∈R,l.Cells.length≤W∧Rgs l.Cells)∧R.length≤x.length+1:=by
 suffices q:∃r,iu s x w=some r∧r.2.2=Er.nil∧Lng r.2.1 (bri x)∧(∀l∈r.2.1,l.Cells.length≤W∧Rgs l.Cells)∧r.2.1.length≤x.length+1 by
  obtain ⟨r,h1,h2,h3⟩:=q;exact ⟨r.1,r.2.1,by rw [h1,←h2],h3⟩
 unfold iu;simp only [bsm];rw [hw];refine kA (n:=x.length) (fun i (a:Int×Sto)=>a.1=(i:Int)∧∃out line,a.2=adr s ⟨(W:Int),out,line⟩∧Brs W out line (bri (x.take i)) i) (fun u=>∃out line,u= .inr (adr s ⟨(W:Int),out,line⟩)∧Brs W out line (bri x) x.length) (fun i a hi hI=>?_) (fun a hI=>?_) ⟨rfl,[],[],rfl,⟨fun l h=>(by cases h),fun l h=>(by cases h),db _,fun c h=>(by cases h),rfl,ao 0⟩⟩ (by omega) (fun u hu=>?_)
 ·obtain ⟨i',st⟩:=a;obtain ⟨e1,out,line,e2,hB⟩:=hI;simp only at e1 e2;subst e1 e2
  left
  have hit:=hx _ (aJ hi);obtain ⟨o',l',p1,p2⟩:=D4 s hW hW2 hB (by omega) hit;simp only;rw [af (dlt hi),bp hi,bsm,yv hit,bsm,ag (by simp),p1,bsm,dL hi (by omega)];refine ⟨_,rfl,rfl,o',l',rfl,?_⟩;rw [ax hi,uu];have:bri [x[i]]=brt x[i].Text:=by simp [bri]
  rw [this];exact p2
 ·obtain ⟨i',st⟩:=a;obtain ⟨e1,out,line,e2,hB⟩:=hI;simp only at e1 e2;subst e1 e2;rw [dW] at hB;exact ⟨_,by simp only; rw [ag (by simp)],out,line,rfl,hB⟩
 ·obtain ⟨out,line,rfl,hB⟩:=hu;have hn:=hB.n;simp only;rw [Da s hW hB.ln (by omega)];simp only [bsm,ql];refine ⟨_,rfl,rfl,⟨⟨out,_,rfl,hB.wr,rfl⟩,?_⟩,fun l hm=>?_,by simp only [aj,az,aH]; omega⟩
  ·rw [lM,←hB.br];simp only [kK,HZ,dy];rw [sm,AV,dy]
  ·have hl:=hB.ln;rcases List.mem_append.1 hm with r | r
   ·exact hB.ok l r
   ·rw [List.mem_singleton.1 r];exact ⟨by simp only [aj,er]; omega,wW hB.lr (pi _).rgs⟩
end Go.Proofs.YtidapncdmjppeaaGreatDoor
namespace Go.Proofs.YtidapncdmjppeaaGreatDoor
structure Sg where
 some:Bool
 last:Int
 pict:Int
 conj:Int
 odd:Bool
def sg0:Sg:=⟨false,0,0,0,false⟩
def nxP (s:Int) (p:aS):Int:=if p.Pict=true then 1 else if s=1∧p.Break=4 then 1 else if s=1∧p.Break=5 then 2 else 0
def nxC (s:Int) (p:aS):Int:=if p.Conj=1 then 1 else if s=0 then 0 else if p.Conj=2 then 2 else if p.Conj=3 then s else 0
def sgN (s:Sg) (p:aS):Sg:=⟨true,p.Break,nxP s.pict p,nxC s.conj p,p.Break==6 && !(s.some && s.last==6 && s.odd)⟩
def sgF (l:List aS):Sg:=l.foldl sgN sg0
def sgJ (pj:Int→Int→Int) (s:Sg) (p:aS):Bool:=
 s.some && ((p.Conj==1 && s.conj==2) || (p.Pict && s.pict==2) || pj s.last p.Break==1 || (pj s.last p.Break==2 && s.last==6 && s.odd))
def ri:List aS→Nat
 | []=>0
 | x :: l=>if x.Break=6 then ri l+1 else 0
def hb:List aS→Int
 | []=>0
 | x :: _=>x.Break
def od:List aS→Bool
 | []=>false
 | x :: l=>x.Break==6 && !(!l.isEmpty && hb l==6 && od l)
theorem HQ (l:List aS):od l=(ri l % 2==1):=by
 induction l with
 | nil=>rfl
 | cons x l ih=>
  unfold od ri;by_cases h:x.Break=6
  ·rw [af h,ih];have hb':(x.Break==6)=true:=by simp [h]
   rw [hb',fQ]
   cases l with
   | nil=>rfl
   | cons y l=>
    by_cases h2:y.Break=6
    ·have e:(hb (y :: l)==6)=true:=by simp [hb,h2]
     rw [e];simp only [List.isEmpty_cons,iD,fQ];rw [cG];simp only [em,ej,aX];omega
    ·have e:(hb (y :: l)==6)=false:=by simp [hb,h2]
     rw [e];simp only [vF,lv,iD];have:ri (y :: l)=0:=by unfold ri; rw [ag h2]
     rw [this];rfl
  ·rw [ag h];simp [h]
structure Sq (s t:Sg):Prop where
 pict:s.pict=t.pict
 conj:s.conj=t.conj
 odd:s.odd=t.odd
theorem Fu {s t:Sg} (h:Sq s t) (h1:s.odd=true→s.some=true∧s.last=6) (h2:t.odd=true→t.some=true∧t.last=6) (p:aS):sgN s p=sgN t p:=by
 unfold sgN;rw [h.pict,h.conj]
 congr 2
 have:(s.some && s.last==6 && s.odd)=(t.some && t.last==6 && t.odd):=by
  have ho:=h.odd;rw [cG];simp only [aw,aX];constructor
  ·rintro ⟨_,q⟩;have:=h2 (ho▸ q);exact ⟨this,ho▸ q⟩
  ·rintro ⟨_,q⟩;have:=h1 (ho▸ q);exact ⟨this,ho▸ q⟩
 rw [this]
end Go.Proofs.YtidapncdmjppeaaGreatDoor
namespace Go.Proofs.YtidapncdmjppeaaGreatDoor
def DG (c:List (List Int)) (r:Int):List (List Int):=c.dropLast++ [c.getLast?.getD []++ [r]]
theorem qm (c:List (List Int)) (x:List Int) (r:Int):DG (c++ [x]) r=c++ [x++ [r]]:=by
 unfold DG;simp
section
variable (pj:Int→Int→Int) (pr:Int→aS)
def clS (l:List Int):List (List Int)×Sg:=l.foldl (fun a r=>(if sgJ pj a.2 (pr r)=true then DG a.1 r else a.1++ [[r]],sgN a.2 (pr r))) ([],sg0)
def cls (l:List Int):List (List Int):=(clS pj pr l).1
def jn (l:List Int) (r:Int):Bool:=sgJ pj (sgF (l.map pr)) (pr r)
theorem ux (l:List aS) (x:aS):sgF (l++ [x])=sgN (sgF l) x:=by
 unfold sgF;rw [gu];rfl
theorem G6 (l:List Int):(clS pj pr l).2=sgF (l.map pr):=by
 have key:∀(l:List Int) (a:List (List Int)×Sg),(l.foldl (fun a r=>(if sgJ pj a.2 (pr r)=true then DG a.1 r else a.1++ [[r]],sgN a.2 (pr r))) a).2=(l.map pr).foldl sgN a.2:=by
  intro l
  induction l with
  | nil=>intro a; rfl
  | cons r l ih=>intro a; rw [Ie,ih,eB,Ie]
 exact key l _
theorem AO:cls pj pr []= []:=rfl
theorem ve (l:List Int) (r:Int):cls pj pr (l++ [r])=if jn pj pr l r=true then DG (cls pj pr l) r else cls pj pr l++ [[r]]:=by
 unfold cls jn;rw [←G6 pj];unfold clS;rw [gu];rfl
theorem AD {l:List Int} {r:Int} (h:jn pj pr l r=true):l≠ []:=by
 rintro rfl;simp [jn,sgJ,sgF,sg0] at h
end
theorem xU {P:List Int→Prop} (h0:P []) (h1:∀l r,P l→P (l++ [r])) (l:List Int):P l:=by
 have key:∀l:List Int,P l.reverse:=by
  intro l
  induction l with
  | nil=>exact h0
  | cons r l ih=>rw [List.reverse_cons]; exact h1 _ _ ih
 have:=key l.reverse
 rwa [List.reverse_reverse] at this
theorem jr {α:Type} {l:List α} (h:l≠ []):∃l0 x,l=l0++ [x]:=⟨l.dropLast,l.getLast h,(List.dropLast_concat_getLast h).symm⟩
variable {pj:Int→Int→Int} {pr:Int→aS}
theorem rW (l:List Int):(cls pj pr l).flatten=l∧(∀c∈cls pj pr l,c≠ [])∧(l≠ []→cls pj pr l≠ []):=by
 refine xU (P:=fun l=>(cls pj pr l).flatten=l∧(∀c∈cls pj pr l,c≠ [])∧(l≠ []→cls pj pr l≠ [])) ⟨rfl,fun c hc=>by simp [AO] at hc,fun h=>absurd rfl h⟩ (fun l r ih=>?_) l;obtain ⟨h1,h2,h3⟩:=ih;rw [ve];split
 ·rename_i hj
  obtain ⟨c0,x,e⟩:=jr (h3 (AD pj pr hj));rw [e] at h1 h2⊢;rw [qm];refine ⟨?_,fun c hc=>?_,fun _=>by simp⟩
  ·rw [←h1]; simp
  ·rcases List.mem_append.1 hc with hc | hc
   ·exact h2 c (de _ hc)
   ·rw [List.mem_singleton.1 hc]; simp
 ·refine ⟨by rw [Hs,h1]; simp,fun c hc=>?_,fun _=>by simp⟩;rcases List.mem_append.1 hc with hc | hc
  ·exact h2 c hc
  ·rw [List.mem_singleton.1 hc]; simp
theorem yM {l:List Int} {x:Int} {c0:List (List Int)} {c:List Int} (h:cls pj pr (l++ [x])=c0++ [c]):∃c',c=c'++ [x]:=by
 obtain ⟨h1,h2,_⟩:=rW (pj:=pj) (pr:=pr) (l++ [x]);rw [h] at h1 h2;obtain ⟨c',y,rfl⟩:=jr (h2 c (by simp));refine ⟨c',?_⟩;rw [Hs] at h1;simp only [qO,List.flatten_nil,dy] at h1;rw [←aI] at h1;have:=Gy h1 rfl;rw [List.singleton_inj.1 this]
section
variable (pj:Int→Int→Int) (pr:Int→aS)
end
structure Sil (pj:Int→Int→Int) (pr:Int→aS) (sil:Int→Bool):Prop where
 s:∀r,sil r=true→((pr r).Break=1∨(pr r).Break=2∨(pr r).Break=3)∧(pr r).Pict=false∧(pr r).Conj=0
 ja:∀a b,(a=1∨a=2∨a=3)→pj a b≠0→a=1∧b=2
 jb:∀a b,(b=1∨b=2∨b=3)→pj a b≠0→a=1∧b=2
 b:∀r,(pr r).Break=1∨(pr r).Break=2→sil r=true
variable {sil:Int→Bool}
theorem Sil.state (h:Sil pj pr sil) (l:List Int) {x:Int} (hx:sil x=true):sgF ((l++ [x]).map pr)=⟨true,(pr x).Break,0,0,false⟩:=by
 obtain ⟨h1,h2,h3⟩:=h.s x hx;rw [bA,xH,ux];unfold sgN nxP nxC;rw [h2,h3,ag (by simp),ag (by omega),ag (by omega),ag (by omega)]
 congr 1
 ·split <;> rfl
 ·have e:((pr x).Break==6)=false:=by rw [ej]; omega
  rw [e,lv]
theorem Sil.no (h:Sil pj pr sil) (l:List Int) {x r:Int} (hx:sil x=true) (hr:sil r=false):jn pj pr (l++ [x]) r=false:=by
 obtain ⟨h1,_,_⟩:=h.s x hx;unfold jn;rw [h.state l hx];have hz:pj (pr x).Break (pr r).Break=0:=DM fun hne=>by
  have:=h.b r (.inr (h.ja _ _ h1 hne).2);rw [hr] at this;cases this
 simp [sgJ,hz]
theorem Sil.new (h:Sil pj pr sil) (l:List Int) {x:Int} (hx:sil x=true) (p:aS):sgN (sgF ((l++ [x]).map pr)) p=sgN sg0 p:=by
 rw [h.state l hx];exact Fu (s:=⟨true,(pr x).Break,0,0,false⟩) (t:=sg0) ⟨rfl,rfl,rfl⟩ (fun e=>by simp at e) (fun e=>by simp [sg0] at e) p
theorem Sil.yes (h:Sil pj pr sil) {l:List Int} {r:Int} (hr:sil r=true) (hj:jn pj pr l r=true):∃l0 x,l=l0++ [x]∧sil x=true:=by
 obtain ⟨l0,x,rfl⟩:=jr (AD pj pr hj);refine ⟨l0,x,rfl,?_⟩;obtain ⟨h1,h2,h3⟩:=h.s r hr;unfold jn at hj;rw [bA,xH,ux] at hj;have hl:(sgN (sgF (l0.map pr)) (pr x)).last=(pr x).Break:=rfl;unfold sgJ at hj;rw [h2,h3,hl] at hj;have hz:pj (pr x).Break (pr r).Break≠0:=fun e=>by
  rw [e] at hj;simp at hj
 exact h.b x (.inl (h.jb _ _ h1 hz).1)
theorem Sil.all (h:Sil pj pr sil) (l:List Int):∀c∈cls pj pr l,(∀x∈c,sil x=true)∨∀x∈c,sil x=false:=by
 refine xU (P:=fun l=>∀c∈cls pj pr l,(∀x∈c,sil x=true)∨∀x∈c,sil x=false) (fun c hc=>by simp [AO] at hc) (fun l r ih=>?_) l;rw [ve];split
 ·rename_i hj
  obtain ⟨l0,x,rfl⟩:=jr (AD pj pr hj);obtain ⟨c0,c,e⟩:=jr ((rW (pj:=pj) (pr:=pr) (l0++ [x])).2.2 (by simp));obtain ⟨c',rfl⟩:=yM e;rw [e] at ih⊢;rw [qm];intro d hd;rcases List.mem_append.1 hd with hd | hd
  ·exact ih d (de _ hd)
  ·rw [List.mem_singleton.1 hd];have hc:=ih (c'++ [x]) (by simp)
   cases hr:sil r with
   | true=>
    obtain ⟨l1,y,e1,hy⟩:=h.yes hr hj;have:x=y:=List.singleton_inj.1 (Gy e1 rfl);subst this
    left
    rcases hc with hc | hc
    ·intro z hz;rcases List.mem_append.1 hz with hz | hz
     ·exact hc z hz
     ·rw [List.mem_singleton.1 hz]; exact hr
    ·have:=hc x (by simp);rw [hy] at this;cases this
   | false=>
    right
    rcases hc with hc | hc
    ·have:=h.no l0 (hc x (by simp)) hr;rw [this] at hj;cases hj
    ·intro z hz;rcases List.mem_append.1 hz with hz | hz
     ·exact hc z hz
     ·rw [List.mem_singleton.1 hz]; exact hr
 ·intro d hd;rcases List.mem_append.1 hd with hd | hd
  ·exact ih d hd
  ·rw [List.mem_singleton.1 hd]
   cases hr:sil r with
   | true=>left; intro z hz; rw [List.mem_singleton.1 hz]; exact hr
   | false=>right; intro z hz; rw [List.mem_singleton.1 hz]; exact hr
end Go.Proofs.YtidapncdmjppeaaGreatDoor
namespace Go.Lt
variable {α:Type} {lo hi:α→Int}
def sw (lo hi:α→Int):List α→Bool
 | []=>true
 | x :: l=>decide (lo x≤hi x) && (match l with | []=>true | y :: _=>decide (hi x < lo y)) && sw lo hi l
theorem wM:∀{T:List α},sw lo hi T=true→∀i (h:i < T.length),lo T[i]≤hi T[i]
 | [],_,i,h=>by simp at h
 | x :: l,hs,i,h=>by
  simp only [sw,aw,an] at hs
  cases i with
  | zero=>exact hs.1.1
  | succ i=>exact wM hs.2 i (by simpa using h)
theorem qb:∀{T:List α},sw lo hi T=true→∀i j (h:j < T.length),(hij:i < j)→hi (T[i]'(by omega)) < lo T[j]
 | [],_,i,j,h,_=>by simp at h
 | x :: l,hs,i,j,h,hij=>by
  have hs0:=hs;simp only [sw,aw,an] at hs
  cases j with
  | zero=>omega
  | succ j=>
   have hj:j < l.length:=by simpa using h
   cases i with
   | succ i=>exact qb hs.2 i j hj (by omega)
   | zero=>
    cases l with
    | nil=>simp at hj
    | cons y l'=>
     have h1:hi x < lo y:=by simpa using hs.1.2
     cases j with
     | zero=>exact h1
     | succ j=>
      have h2:=qb hs.2 0 (j+1) hj (by omega);have h3:=wM hs.2 0 (by simp);simp only [Gu] at h2 h3;simp only [Gu,Gv] at h2⊢;omega
def onn (lo hi:α→Int) (r:Int) (x:α):Bool:=decide (lo x≤r) && decide (r≤hi x)
theorem rI {r:Int} {x:α}:onn lo hi r x=true↔lo x≤r∧r≤hi x:=by simp [onn]
theorem CD {T:List α} (hs:sw lo hi T=true) {r:Int} {i j:Nat} (hi':i < T.length) (hj:j < T.length) (h1:onn lo hi r T[i]=true) (h2:onn lo hi r T[j]=true):i=j:=by
 rw [rI] at h1 h2;rcases Nat.lt_trichotomy i j with h | h | h
 ·have:=qb hs i j hj h;omega
 ·exact h
 ·have:=qb hs j i hi' h;omega
def fnd (lo hi:α→Int) (T:List α) (r:Int):Option α:=T.find? (onn lo hi r)
theorem Ga {T:List α} (hs:sw lo hi T=true) {r:Int} {x:α} (hx:x∈T) (h:onn lo hi r x=true):fnd lo hi T r=some x:=by
 unfold fnd;obtain ⟨i,hi',rfl⟩:=List.mem_iff_getElem.1 hx;rw [List.find?_eq_some_iff_getElem];refine ⟨h,i,hi',rfl,fun j hj=>?_⟩
 cases hb:onn lo hi r (T[j]'(by omega)) with
 | false=>rfl
 | true=>exact absurd (CD hs (by omega) hi' hb h) (by omega)
theorem yF {T:List α} {r:Int} (h:∀i (h:i < T.length),onn lo hi r T[i]=false):fnd lo hi T r=none:=by
 unfold fnd;rw [List.find?_eq_none];intro x hx;obtain ⟨i,hi',rfl⟩:=List.mem_iff_getElem.1 hx;simp [h i hi']
theorem EC {T:List α} {r:Int} {x:α} (h:fnd lo hi T r=some x):x∈T∧onn lo hi r x=true:=⟨List.mem_of_find?_eq_some h,List.find?_some h⟩
theorem xj {T:List α} (hs:sw lo hi T=true) {r:Int} {i:Nat} (h1:∀j (h:j < T.length),j < i→hi T[j] < r) (h2:∀j (h:j < T.length),i≤j→r≤hi T[j]):
  fnd lo hi T r=if h:i < T.length then (if lo T[i]≤r then some T[i] else none) else none:=by
 have hno:∀j (h:j < T.length),j≠i→onn lo hi r T[j]=false:=fun j h hne=>by
  cases hb:onn lo hi r T[j] with
  | false=>rfl
  | true=>
   rw [rI] at hb;rcases aL j i with hj | hj
   ·have:=h1 j h hj;omega
   ·have h3:=qb hs i j h (by omega);have h4:=h2 i (by omega) (ao _);omega
 split
 ·rename_i hi'
  split
  ·rename_i hl
   exact Ga hs (aJ hi') (rI.2 ⟨hl,h2 i hi' (ao _)⟩)
  ·rename_i hl
   refine yF fun j h=>?_;by_cases hj:j=i
   ·subst hj
    cases hb:onn lo hi r T[j] with
    | false=>rfl
    | true=>exact absurd (rI.1 hb).1 hl
   ·exact hno j h hj
 ·rename_i hi'
  exact yF fun j h=>hno j h (by omega)
theorem Ey {a b:Nat} (h:a+b≤4611686018427387904):w64 ((IntKind.u64.wrap (w64 ((a:Int)+(b:Int)))).fdiv (2 ^ 1))=(((a+b) / 2:Nat):Int):=by
 have e0:w64 ((a:Int)+(b:Int))=((a+b:Nat):Int):=by rw [aN (by omega)]; simp
 have h1:IntKind.u64.wrap ((a+b:Nat):Int)=((a+b:Nat):Int):=by
  have:((a+b:Nat):Int) % 18446744073709551616=((a+b:Nat):Int):=Int.emod_eq_of_lt (by omega) (by omega);simpa [IntKind.wrap,IntKind.bits,IntKind.signed] using this
 have e2:(((a+b:Nat):Int)).fdiv (2 ^ 1)=(((a+b) / 2:Nat):Int):=by
  rw [Int.fdiv_eq_ediv_of_nonneg _ (by decide)];omega
 rw [e0,h1,e2,aN (by omega)]
theorem qc {T:List α} (hs:sw lo hi T=true) (hl:T.length≤1000000) (r:Int) {step:Int×Int→Option (Int×Int ⊕ Int)}
  (h1:∀a b:Nat,(hab:a < b)→(hb:b≤T.length)→step ((a:Int),(b:Int))=some (.inl (if r≤hi (T[(a+b) / 2]'(by omega)) then ((a:Int),(((a+b) / 2:Nat):Int)) else (((((a+b) / 2+1:Nat):Int)),(b:Int)))))
  (h2:∀a:Nat,step ((a:Int),(a:Int))=some (.inr (a:Int))):
  ∃i:Nat,cO (((T.length:Int) - 0).toNat+1) step (0,(T.length:Int))=some (i:Int)∧i≤T.length∧(∀j (h:j < T.length),j < i→hi T[j] < r)∧(∀j (h:j < T.length),i≤j→r≤hi T[j]):=by
 have hmono:∀j k (h:k < T.length),(hjk:j≤k)→hi (T[j]'(by omega))≤hi T[k]:=fun j k h hjk=>by
  rcases aL j k with hlt | hge
  ·have e1:=qb hs j k h hlt;have e2:=wM hs k h;omega
  ·obtain rfl:j=k:=by omega
   exact Int.le_refl _
 obtain ⟨t,e1,i,e2,e3,e4,e5⟩:=nO (step:=step) (fun q=>∃a b:Nat,q=((a:Int),(b:Int))∧a≤b∧b≤T.length∧(∀j (h:j < T.length),j < a→hi T[j] < r)∧(∀j (h:j < T.length),b≤j→r≤hi T[j]))
  (fun q=>(q.2 - q.1).toNat) (fun t=>∃i:Nat,t=(i:Int)∧i≤T.length∧(∀j (h:j < T.length),j < i→hi T[j] < r)∧(∀j (h:j < T.length),i≤j→r≤hi T[j]))
  (by
   rintro q ⟨a,b,rfl,hab,hb,c1,c2⟩;rcases aL a b with hlt | hge
   ·left
    rw [h1 a b hlt hb];refine ⟨_,rfl,?_⟩;by_cases hr:r≤hi (T[(a+b) / 2]'(by omega))
    ·rw [af hr];exact ⟨⟨a,(a+b) / 2,rfl,by omega,by omega,c1,fun j h hj=>Int.le_trans hr (hmono _ _ h hj)⟩,by simp only; omega⟩
    ·rw [ag hr];refine ⟨⟨(a+b) / 2+1,b,rfl,by omega,hb,fun j h hj=>?_,c2⟩,by simp only; omega⟩;have:=hmono j ((a+b) / 2) (by omega) (by omega);omega
   ·right
    obtain rfl:a=b:=by omega
    exact ⟨_,h2 a,a,rfl,hb,c1,c2⟩)
  (((T.length:Int) - 0).toNat+1) (0,(T.length:Int)) ⟨0,T.length,rfl,db _,ao _,fun j h hj=>by omega,fun j h hj=>by omega⟩ (by simp only; omega)
 subst e2;exact ⟨i,e1,e3,e4,e5⟩
def lk (T:List (Int×Int×Int)) (r:Int):Option Int:=(fnd (fun x=>x.1) (fun x=>x.2.1) T r).map (fun x=>x.2.2)
end Go.Lt
namespace Go.Proofs.YtidapncdmjppeaaGreatDoor
open Go Go.Lt
set_option maxRecDepth 100000
def gT:List (Int×Int×Int):=match lY with | some t=>t | none=>[]
def pT:List (Int×Int):=match kO with | some t=>t | none=>[]
def cT:List (Int×Int×Int):=match kU with | some t=>t | none=>[]
def eT:List (Int×Int×Int):=match kS with | some t=>t | none=>[]
theorem GX:lY=some gT:=rfl
theorem GP:kO=some pT:=rfl
theorem Hb:kU=some cT:=rfl
theorem G2:kS=some eT:=rfl
theorem GV:sw (fun x=>x.1) (fun x=>x.2.1) gT=true:=by kernel_rfl
theorem GN:sw (fun x=>x.1) (fun x=>x.2) pT=true:=by kernel_rfl
theorem G9:sw (fun x=>x.1) (fun x=>x.2.1) cT=true:=by kernel_rfl
theorem GZ:sw (fun x=>x.1) (fun x=>x.2.1) eT=true:=by kernel_rfl
theorem GW:gT.length≤1000000:=by
 have:Nat.ble gT.length 1000000=true:=by kernel_rfl
 exact bH this
theorem GO:pT.length≤1000000:=by
 have:Nat.ble pT.length 1000000=true:=by kernel_rfl
 exact bH this
theorem Ha:cT.length≤1000000:=by
 have:Nat.ble cT.length 1000000=true:=by kernel_rfl
 exact bH this
theorem G1:eT.length≤1000000:=by
 have:Nat.ble eT.length 1000000=true:=by kernel_rfl
 exact bH this
def hcl (r:Int):Int:=
 if (4352≤r∧r≤4447)∨(43360≤r∧r≤43388) then 9
 else if (4448≤r∧r≤4519)∨(55216≤r∧r≤55238) then 10
 else if (4520≤r∧r≤4607)∨(55243≤r∧r≤55291) then 11
 else if r < 44032∨55203 < r then 0
 else if (r - 44032) % 28=0 then 12 else 13
def r32 (r:Int):Prop:= -2147483648≤r∧r≤2147483647
theorem r32.w {r:Int} (h:r32 r):w64 r=r:=by unfold r32 at h; exact aN (by omega)
theorem yw {α:Type} {b:Bool} {p:Prop} [Decidable p] (h:b=true↔p) (x y:α):(if b=true then x else y)=if p then x else y:=by
 by_cases hp:p
 ·rw [af hp,af (h.2 hp)]
 ·rw [ag hp,ag (fun e=>hp (h.1 e))]
theorem xS {α:Type} {p:Prop} [Decidable p] (x y:α):(if p then some x else some y)=some (if p then x else y):=by split <;> rfl
theorem rO (r:Int) (h:r32 r):jz r=some (hcl r):=by
 unfold r32 at h;unfold jz jo fH hcl;simp only [aV,bsm,bQ];have hw:44032≤r→r≤55203→(w32 (r - 44032)).tmod 28=(r - 44032) % 28:=fun h1 h2=>by
  rw [zu (by omega),DK (by omega)]
 rw [yw (p:=(4352≤r∧r≤4447)∨(43360≤r∧r≤43388)) (by simp),yw (p:=(4448≤r∧r≤4519)∨(55216≤r∧r≤55238)) (by simp),yw (p:=(4520≤r∧r≤4607)∨(55243≤r∧r≤55291)) (by simp)];rw [yw (p:=r < 44032∨55203 < r) (by simp)];by_cases hs:r < 44032∨55203 < r
 ·simp only [af hs,xS]
 ·simp only [ag hs];rw [hw (by omega) (by omega)];rw [yw (p:=(r - 44032) % 28=0) (by simp)];simp only [xS]
def pic (r:Int):Bool:=(fnd (fun x:Int×Int=>x.1) (fun x=>x.2) pT r).isSome
def pr (r:Int):aS:=⟨(lk gT r).getD (hcl r),pic r,(lk cT r).getD 0,(lk eT r).getD 0⟩
theorem pv {a b n:Nat} (h:a < b) (hb:b≤n):(a+b) / 2 < n:=by omega
theorem FY (r:Int) (h:r32 r):pH r=some ((lk gT r).getD (hcl r)):=by
 have hw:=h.w;have hlen:=GW;unfold pH;rw [GX];simp only [bsm];obtain ⟨i,e1,e2,e3,e4⟩:=qc GV GW r (step:=fun s_7=>
  if (decide (s_7.1 < s_7.2))=true then
  (mO (w64 ((IntKind.u64.wrap (w64 (s_7.1+s_7.2))).fdiv (2 ^ 1))) gT r).bind fun x_22=>
  if (!x_22)=true then
  some (.inl ((w64 ((w64 ((IntKind.u64.wrap (w64 (s_7.1+s_7.2))).fdiv (2 ^ 1)))+1)),s_7.2))
  else
  some (.inl (s_7.1,(w64 ((IntKind.u64.wrap (w64 (s_7.1+s_7.2))).fdiv (2 ^ 1)))))
  else
  some (.inr (s_7.1))) (fun a b hab hb=>by
   simp only;rw [af (by simp; omega),Ey (by omega)];unfold mO;rw [bp (pv hab hb),hw];simp only [bsm];by_cases hr:r≤(gT[(a+b) / 2]'(pv hab hb)).2.1
   ·rw [ag (by simpa using hr),af hr]
   ·rw [af (by simpa using hr),ag hr,aN (by omega)];rfl) (fun a=>by simp only; rw [ag (by simp)])
 unfold fh;rw [e1];simp only [bsm,hw];have hf:=xj GV e3 e4;unfold lk;rw [hf];by_cases hi:i < gT.length
 ·rw [sR hi,bp hi];simp only [bsm,aV];by_cases hlo:gT[i].1≤r
  ·rw [af (by simp; exact ⟨hi,hlo⟩),af hlo];rfl
  ·rw [ag (by simp; omega),ag hlo,rO r h];rfl
 ·rw [vG hi,show decide ((i:Int) < (gT.length:Int))=false by simp; omega,fW];simp only [bsm];rw [ag (by decide),rO r h];rfl
theorem EN (r:Int) (h:r32 r):nZ r=some ((lk cT r).getD 0):=by
 have hw:=h.w;have hlen:=Ha;unfold nZ;rw [Hb];simp only [bsm];obtain ⟨i,e1,e2,e3,e4⟩:=qc G9 Ha r (step:=fun s_7=>
  if (decide (s_7.1 < s_7.2))=true then
  (mb (w64 ((IntKind.u64.wrap (w64 (s_7.1+s_7.2))).fdiv (2 ^ 1))) cT r).bind fun x_22=>
  if (!x_22)=true then
  some (.inl ((w64 ((w64 ((IntKind.u64.wrap (w64 (s_7.1+s_7.2))).fdiv (2 ^ 1)))+1)),s_7.2))
  else
  some (.inl (s_7.1,(w64 ((IntKind.u64.wrap (w64 (s_7.1+s_7.2))).fdiv (2 ^ 1)))))
  else
  some (.inr (s_7.1))) (fun a b hab hb=>by
   simp only;rw [af (by simp; omega),Ey (by omega)];unfold mb;rw [bp (pv hab hb),hw];simp only [bsm];by_cases hr:r≤(cT[(a+b) / 2]'(pv hab hb)).2.1
   ·rw [ag (by simpa using hr),af hr]
   ·rw [af (by simpa using hr),ag hr,aN (by omega)];rfl) (fun a=>by simp only; rw [ag (by simp)])
 unfold eU;rw [e1];simp only [bsm,hw];have hf:=xj G9 e3 e4;unfold lk;rw [hf];by_cases hi:i < cT.length
 ·rw [sR hi,bp hi];simp only [bsm,bQ];by_cases hlo:cT[i].1≤r
  ·rw [ag (by simp; omega),af hlo];rfl
  ·rw [af (by simp; omega),ag hlo];rfl
 ·rw [vG hi,show ((i:Int)==(cT.length:Int))=true by simp; omega,yj];simp only [bsm];rw [af trivial];rfl
theorem EG (r:Int) (h:r32 r):nX r=some ((lk eT r).getD 0):=by
 have hw:=h.w;have hlen:=G1;unfold nX;rw [G2];simp only [bsm];obtain ⟨i,e1,e2,e3,e4⟩:=qc GZ G1 r (step:=fun s_7=>
  if (decide (s_7.1 < s_7.2))=true then
  (ma (w64 ((IntKind.u64.wrap (w64 (s_7.1+s_7.2))).fdiv (2 ^ 1))) eT r).bind fun x_22=>
  if (!x_22)=true then
  some (.inl ((w64 ((w64 ((IntKind.u64.wrap (w64 (s_7.1+s_7.2))).fdiv (2 ^ 1)))+1)),s_7.2))
  else
  some (.inl (s_7.1,(w64 ((IntKind.u64.wrap (w64 (s_7.1+s_7.2))).fdiv (2 ^ 1)))))
  else
  some (.inr (s_7.1))) (fun a b hab hb=>by
   simp only;rw [af (by simp; omega),Ey (by omega)];unfold ma;rw [bp (pv hab hb),hw];simp only [bsm];by_cases hr:r≤(eT[(a+b) / 2]'(pv hab hb)).2.1
   ·rw [ag (by simpa using hr),af hr]
   ·rw [af (by simpa using hr),ag hr,aN (by omega)];rfl) (fun a=>by simp only; rw [ag (by simp)])
 unfold eR;rw [e1];simp only [bsm,hw];have hf:=xj GZ e3 e4;unfold lk;rw [hf];by_cases hi:i < eT.length
 ·rw [sR hi,bp hi];simp only [bsm,bQ];by_cases hlo:eT[i].1≤r
  ·rw [ag (by simp; omega),af hlo];rfl
  ·rw [af (by simp; omega),ag hlo];rfl
 ·rw [vG hi,show ((i:Int)==(eT.length:Int))=true by simp; omega,yj];simp only [bsm];rw [af trivial];rfl
theorem D6 (r:Int) (h:r32 r):nS r=some (pic r):=by
 have hlen:=GO;unfold nS;rw [GP];simp only [bsm];obtain ⟨i,e1,e2,e3,e4⟩:=qc GN GO r (step:=fun s_7=>
  if (decide (s_7.1 < s_7.2))=true then
  (lX (w64 ((IntKind.u64.wrap (w64 (s_7.1+s_7.2))).fdiv (2 ^ 1))) pT r).bind fun x_22=>
  if (!x_22)=true then
  some (.inl ((w64 ((w64 ((IntKind.u64.wrap (w64 (s_7.1+s_7.2))).fdiv (2 ^ 1)))+1)),s_7.2))
  else
  some (.inl (s_7.1,(w64 ((IntKind.u64.wrap (w64 (s_7.1+s_7.2))).fdiv (2 ^ 1)))))
  else
  some (.inr (s_7.1))) (fun a b hab hb=>by
   simp only;rw [af (by simp; omega),Ey (by omega)];unfold lX;rw [bp (pv hab hb)];simp only [bsm];by_cases hr:r≤(pT[(a+b) / 2]'(pv hab hb)).2
   ·rw [ag (by simpa using hr),af hr]
   ·rw [af (by simpa using hr),ag hr,aN (by omega)];rfl) (fun a=>by simp only; rw [ag (by simp)])
 unfold eQ;rw [e1];simp only [bsm];have hf:=xj GN e3 e4;unfold pic;rw [hf];by_cases hi:i < pT.length
 ·rw [sR hi,bp hi];simp only [bsm,aV];by_cases hlo:pT[i].1≤r
  ·rw [af hlo];simp [hi,hlo]
  ·rw [ag hlo];simp [hlo]
 ·rw [vG hi,show decide ((i:Int) < (pT.length:Int))=false by simp; omega,fW];rfl
theorem Fl (r:Int) (h:r32 r):pA r=some (pr r):=by
 unfold pA;rw [FY r h,D6 r h,EN r h,EG r h];rfl
end Go.Proofs.YtidapncdmjppeaaGreatDoor
namespace Go.Proofs.YtidapncdmjppeaaGreatDoor
open Go Go.Lt
variable {s:Sto} {g k W:Nat} {ks:List Nat} {l p:List aa} {w:Bool}
def Sto.sg (s:Sto) (g:Nat) (x:bR):Sto:={ s with grid_Grid:=s.grid_Grid.set g x}
theorem xX {x:bR} (h:g < s.grid_Grid.length):s.set_grid_Grid g x=some (s.sg g x):=by
 simp only [Sto.set_grid_Grid,h,bF];rfl
theorem Ce {x:bR} (h:g < s.grid_Grid.length):(s.sg g x).grid_Grid[g]? = some x:=by simp [Sto.sg,h]
theorem GH (s:Sto) (g:Nat) (x y:bR):(s.sg g x).sg g y=s.sg g y:=by simp [Sto.sg]
theorem GI {x:bR} (h:s.grid_Grid[g]? = some x):s.sg g x=s:=by
 obtain ⟨h1,h2⟩:=List.getElem?_eq_some_iff.1 h;unfold Sto.sg;rw [←h2,GA]
def ln (s:Sto) (k:Nat):ah:=match s.row_Row[k]? with | some r=>⟨r.cells,r.wrap⟩ | none=>⟨[],false⟩
theorem mG {r:bc} (h:s.row_Row[k]? = some r):ln s k=⟨r.cells,r.wrap⟩:=by simp [ln,h]
def Rw (s:Sto) (W k:Nat):Prop:=∃r,s.row_Row[k]? = some r∧Snd r.cells∧r.cells.length=W
structure Gw (s:Sto) (g:Nat) (ks:List Nat) (W:Nat):Prop where
 g:s.grid_Grid[g]? = some ⟨ks.map some⟩
 r:∀k∈ks,Rw s W k
 h1:1≤ks.length
 h2:ks.length≤1024
 w1:1≤W
 w2:W≤1024
theorem Gw.at (h:Gw s g ks W) {i:Nat} (hi:i < ks.length):Rw s W ks[i]:=h.r _ (aJ hi)
theorem dZ (h:Gw s g ks W):bJ s (some g)=some (ks.length:Int):=by simp [bJ,h.g]
theorem eu (h:Gw s g ks W) {i:Nat} (hi:i < ks.length):bq s (some g) i=some (some ks[i]):=by
 unfold bq;rw [dZ h];simp only [bsm,bQ];rw [ag (by simp; omega)];simp only [bsm,h.g];rw [bp (by simpa using hi)];simp
theorem rQ (h:Gw s g ks W) {i:Int} (hi:i < 0∨(ks.length:Int)≤i):bq s (some g) i=some none:=by
 unfold bq;rw [dZ h];simp only [bsm,bQ];rw [af (by simp; omega)]
theorem wG (h:Rw s W k):bK s (some k)=some (W:Int):=by
 obtain ⟨r,h1,_,h3⟩:=h;rw [ig (l:=r.cells) (w:=r.wrap) h1,h3]
theorem ii (h:Gw s g ks W):bU s (some g)=some (W:Int):=by
 unfold bU;rw [show (0:Int)=((0:Nat):Int) from rfl,eu h (show 0 < ks.length from h.h1)];simp only [bsm];rw [wG (h.at h.h1)];rfl
theorem yB (h:Gw s g ks W) {i:Nat} (hi:i < ks.length) (hk:Rw s W k):dR s (some g) i (some k)=some (s.sg g ⟨(ks.set i k).map some⟩,true):=by
 unfold dR;rw [eu h hi];simp only [bsm,wG (h.at hi),wG hk,bG,fM];rw [ag (by simp)];simp only [h.g,bsm];rw [bp (by simpa using hi),ib (by simpa using hi)];simp only [bsm];rw [xX (cD h.g)];simp
theorem Gw.set (h:Gw s g ks W) {i:Nat} (hk:Rw s W k):Gw (s.sg g ⟨(ks.set i k).map some⟩) g (ks.set i k) W:=
 ⟨Ce (cD h.g),fun j hj=>by
  rcases DL hj with hj | rfl
  ·exact h.r j hj
  ·exact hk,by simpa using h.h1,by simpa using h.h2,h.w1,h.w2⟩
theorem zK (h:Gw s g ks W):gI s (some g)=some (ks.map (ln s)):=by
 have hh:=h.h2;have hw:=h.w2;unfold gI;rw [dZ h];simp only [bsm];obtain ⟨t,h1,h2⟩:=dY (σ:=(List ah)×Int) (τ:=List ah) (n:=ks.length) (fuel:=((ks.length:Int) - 0).toNat+1) (s:=(([]:List ah),0))
  (fun i q=>q=((ks.take i).map (ln s),(i:Int))) (fun t=>t=ks.map (ln s))
  (step:=fun s_9=>
 if (decide (s_9.2 < (ks.length:Int)))=true then
 (s.grid_Grid[g]?).bind fun o_19=>
 (idx o_19.rows s_9.2).bind fun x_21=>
 (idx o_19.rows s_9.2).bind fun x_28=>
 (dQ s x_21).bind fun x_30=>
 (ip s x_28).bind fun x_31=>
 (app s_9.1 ([(⟨x_30,x_31⟩:ah)]:List ah)).bind fun x_34=>
 some (.inl (x_34,(w64 (s_9.2+1))))
 else
 some (.inr (s_9.1)))
  (fun i q hi e=>by
   subst e;refine .inl ⟨_,?_,rfl⟩;obtain ⟨r,r1,r2,r3⟩:=h.at hi;have e5:w64 ((i:Int)+1)=((i+1:Nat):Int):=by rw [aN (by omega)]; simp
   have hd:decide ((i:Int) < (ks.length:Int))=true:=by simp; exact hi
   have hi2:i < (ks.map some).length:=by simpa using hi
   simp only [hd,bF,bsm,h.g,bp hi2,eK,e5];rw [qf (l:=r.cells) (w:=r.wrap) r1 (by omega) r2.sht,Cp (l:=r.cells) (w:=r.wrap) r1];simp only [bsm];rw [cY (by simp; omega)];simp only [bsm];rw [ax hi,bA];simp [mG r1])
  (fun q e=>⟨_,by subst e; simp,rfl⟩)
  (by simp) (by omega)
 subst h2;rw [h1];rfl
def Okl (W:Nat) (x:ah):Prop:=Snd x.Cells∧x.Cells.length=W
theorem vM (h:Gw s g ks W):∀x∈ks.map (ln s),Okl W x:=fun x hx=>by
 obtain ⟨k,hk,rfl⟩:=List.mem_map.1 hx;obtain ⟨r,r1,r2,r3⟩:=h.r k hk;rw [mG r1];exact ⟨r2,r3⟩
theorem Fq {a b:Sto} (h1:a.row_Row=b.row_Row) (h2:a.grid_Grid=b.grid_Grid) (h3: { a with row_Row:=b.row_Row,grid_Grid:=b.grid_Grid}=b):a=b:=
 Eq.trans (show a= { a with row_Row:=b.row_Row,grid_Grid:=b.grid_Grid} by rw [←h1,←h2]) h3
def Sto.rst (s:Sto):Sto:={ s with row_Row:=[],grid_Grid:=[]}
def Sto.oth (s:Sto):Sto:={ s with row_Row:=[],grid_Grid:=[],place_Pen:=[]}
theorem jM {a b:Sto} (h:a.rst=b.rst):a.place_Pen=b.place_Pen:=by
 have:=kW Sto.place_Pen h;exact this
theorem qe {a b:Sto} (h:a.rst=b.rst):a.oth=b.oth:=by
 have:=kW (fun x:Sto=>({ x with place_Pen:=[]}:Sto)) h;exact this
def Sto.addr (s:Sto) (xs:List bc):Sto:={ s with row_Row:=s.row_Row++xs}
theorem DD (s:Sto) (xs:List bc):(s.addr xs).row_Row.length=s.row_Row.length+xs.length:=by simp [Sto.addr]
theorem zk {xs:List bc} (h:k < s.row_Row.length):(s.addr xs).row_Row[k]? = s.row_Row[k]? :=aB h
theorem ss {xs:List bc} {i:Nat} (h:i < xs.length):(s.addr xs).row_Row[s.row_Row.length+i]? = some xs[i]:=by
 simp [Sto.addr,aG,h]
theorem DE (s:Sto) (xs:List bc) (x:bc):(s.addr xs).add_row_Row x=s.addr (xs++ [x]):=by simp [Sto.addr,Sto.add_row_Row]
theorem zl (s:Sto):s.addr []=s:=by simp [Sto.addr]
theorem Rw.lt (h:Rw s W k):k < s.row_Row.length:=by obtain ⟨r,h,_⟩:=h; exact cD h
theorem Rw.addr {xs:List bc} (h:Rw s W k):Rw (s.addr xs) W k:=by
 obtain ⟨r,h1,h2⟩:=h;exact ⟨r,by rw [zk (cD h1)]; exact h1,h2⟩
theorem Gw.addr {xs:List bc} (h:Gw s g ks W):Gw (s.addr xs) g ks W:=⟨h.g,fun k hk=>(h.r k hk).addr,h.h1,h.h2,h.w1,h.w2⟩
theorem uH {xs:List bc} (h:k < s.row_Row.length):ln (s.addr xs) k=ln s k:=by unfold ln; rw [zk h]
theorem CM {xs:List bc} {i:Nat} (h:i < xs.length):ln (s.addr xs) (s.row_Row.length+i)=⟨xs[i].cells,xs[i].wrap⟩:=mG (ss h)
def lr (x:ah):bc:=⟨x.Cells,x.Wrap⟩
theorem E6 {L:List ah} (h1:1≤L.length) (h2:L.length≤1024)
  (hok:∀i (h:i < L.length),1≤L[i].Cells.length∧L[i].Cells.length≤1024∧Snd L[i].Cells∧L[i].Cells.length=(L[0]'(by omega)).Cells.length):
  Gw ((s.addr (L.map lr)).add_grid_Grid ⟨(List.range' s.row_Row.length L.length).map some⟩) s.grid_Grid.length (List.range' s.row_Row.length L.length) (L[0]'(by omega)).Cells.length∧
   (List.range' s.row_Row.length L.length).map (ln ((s.addr (L.map lr)).add_grid_Grid ⟨(List.range' s.row_Row.length L.length).map some⟩))=L:=by
 have hr:∀i (h:i < L.length),((s.addr (L.map lr)).add_grid_Grid ⟨(List.range' s.row_Row.length L.length).map some⟩).row_Row[s.row_Row.length+i]? = some (lr L[i]):=fun i h=>by
  have:=ss (s:=s) (xs:=L.map lr) (i:=i) (by simpa using h);rw [eK] at this;exact this
 refine ⟨⟨by simp [Sto.add_grid_Grid,Sto.addr],fun k hk=>?_,by simpa using h1,by simpa using h2,(hok 0 (by omega)).1,(hok 0 (by omega)).2.1⟩,?_⟩
 ·rw [zr] at hk;have hi:k - s.row_Row.length < L.length:=by omega
  have:=hr _ hi;rw [show s.row_Row.length+(k - s.row_Row.length)=k by omega] at this;exact ⟨_,this,(hok _ hi).2.2.1,(hok _ hi).2.2.2⟩
 ·refine H0 (by simp) fun i h1 h2=>?_;rw [eK,List.getElem_range',mw,mG (hr i h2)];rfl
theorem icl (a:Int) (m:Nat):aW 0 (aO a (m:Int))=((cl a m:Nat):Int):=by simp only [fw,dF,cl]; omega
theorem wj (h:Gw s g ks W) (a b n:Int):kD s (some g) a b n=some (⟨(cl a ks.length:Nat),(cl b ks.length:Nat),min n ((cl b ks.length:Int) - (cl a ks.length:Int))⟩,decide (cl a ks.length < cl b ks.length) && decide (0 < n)):=by
 have h1:=mo a ks.length;have h2:=mo b ks.length;have hh:=h.h2;unfold kD;rw [dZ h];simp only [bsm,icl,aV];rw [dF,aN (by omega)];simp
theorem tE (h:Gw s g ks W) {a b:Nat} (hab:a≤b) (hb:b≤ks.length):iY s (some g) a b=some (((ks.drop a).take (b - a)).map some):=by
 have hh:=h.h2;unfold iY;obtain ⟨t,h1,h2⟩:=dY (σ:=(List (Option Nat))×Int) (τ:=List (Option Nat)) (n:=b - a) (fuel:=((b:Int) - (a:Int)).toNat+1) (s:=(([]:List (Option Nat)),(a:Int)))
  (fun i q=>q=(((ks.drop a).take i).map some,((a+i:Nat):Int))) (fun t=>t=((ks.drop a).take (b - a)).map some)
  (step:=fun s_8=>
 if (decide (s_8.2 < (b:Int)))=true then
 (bq s (some g) s_8.2).bind fun x_16=>
 (app s_8.1 ([x_16]:List (Option Nat))).bind fun x_18=>
 some (.inl (x_18,(w64 (s_8.2+1))))
 else
 some (.inr (s_8.1)))
  (fun i q hi e=>by
   subst e;refine .inl ⟨_,?_,rfl⟩;have e5:w64 (((a+i:Nat):Int)+1)=((a+(i+1):Nat):Int):=by rw [aN (by omega)]; simp; omega
   have hd:decide (((a+i:Nat):Int) < (b:Int))=true:=by simp; omega
   simp only [hd,bF];rw [eu h (show a+i < ks.length by omega)];simp only [bsm,e5];rw [cY (by simp; omega)];simp only [bsm];rw [ax (by simp; omega),bA];simp)
  (fun q e=>by
   subst e;have hd:decide (((a+(b - a):Nat):Int) < (b:Int))=false:=by simp; omega
   exact ⟨_,by simp only [hd]; rfl,rfl⟩)
  (by simp) (by omega)
 subst h2;rw [h1];rfl
def bk (W:Nat):bc:=⟨List.replicate W bl,false⟩
theorem qC (h:Gw s g ks W) {n:Nat} (hn:n≤1024):gx s (some g) n=some (s.addr (List.replicate n (bk W)),(List.range' s.row_Row.length n).map some):=by
 unfold gx;obtain ⟨t,h1,h2⟩:=dY (σ:=(List (Option Nat))×Int×Sto) (τ:=(List (Option Nat))×Sto) (n:=n) (fuel:=((n:Int) - 0).toNat+1) (s:=(([]:List (Option Nat)),0,s))
  (fun i q=>q=((List.range' s.row_Row.length i).map some,(i:Int),s.addr (List.replicate i (bk W)))) (fun t=>t=((List.range' s.row_Row.length n).map some,s.addr (List.replicate n (bk W))))
  (step:=fun s_8=>
 if (decide (s_8.2.1 < (n:Int)))=true then
 (bU s_8.2.2 (some g)).bind fun x_13=>
 (jO s_8.2.2 x_13).bind fun x_14=>
 (app s_8.1 ([x_14.2]:List (Option Nat))).bind fun x_16=>
 some (.inl (x_16,(w64 (s_8.2.1+1)),x_14.1))
 else
 some (.inr (s_8.1,s_8.2.2)))
  (fun i q hi e=>by
   subst e;refine .inl ⟨_,?_,rfl⟩;have e5:w64 ((i:Int)+1)=((i+1:Nat):Int):=by rw [aN (by omega)]; simp
   have hd:decide ((i:Int) < (n:Int))=true:=by simp; exact hi
   simp only [hd,bF];rw [ii (h.addr (xs:=List.replicate i (bk W)))];simp only [bsm,wU,Ap h.w1 h.w2,e5];rw [cY (by simp; omega)];simp only [bsm];rw [DE,DD,HK,bA,Hj];simp [bk])
  (fun q e=>⟨_,by subst e; simp,rfl⟩)
  (by simp [zl]) (by omega)
 subst h2;rw [h1];rfl
def ov (ks:List Nat) (F:Nat) (p:List Nat):List Nat:=ks.take F++p++ks.drop (F+p.length)
theorem sL {F:Nat} {p:List Nat} (h:F+p.length≤ks.length):(ov ks F p).length=ks.length:=by simp [ov]; omega
theorem FG {F i:Nat} {p:List Nat} (h:F+p.length≤ks.length) (hi:i < p.length):(ov ks F (p.take i)).set (F+i) p[i]=ov ks F (p.take (i+1)):=by
 unfold ov;have h1:(ks.take F++p.take i).length=F+i:=by simp; omega
 rw [dH _ _ (by omega),h1,dd,aA,aA,cN (Nat.le_of_lt hi),cN (show i+1≤p.length by omega),lD (show F+i < ks.length by omega),qa,ax hi];simp only [aI,da,bS,rh]
def off (s:Sto) (k:Nat):Sto:=s.sr k ⟨(ln s k).Cells,false⟩
theorem yD (h:Rw s W k):eA s (some k) false=some (off s k):=by
 obtain ⟨r,h1,_⟩:=h;rw [uB (l:=r.cells) (w:=r.wrap) h1];unfold off;rw [mG h1]
theorem Rw.off {j:Nat} (h:Rw s W j) (hk:Rw s W k):Rw (off s k) W j:=by
 obtain ⟨r,h1,h2,h3⟩:=h;obtain ⟨q,k1,k2,k3⟩:=hk;by_cases e:k=j
 ·subst e;exact ⟨_,qP (cD k1),by rw [mG k1]; exact ⟨k2,k3⟩⟩
 ·exact ⟨r,(xQ e).trans h1,h2,h3⟩
theorem Gw.off (h:Gw s g ks W) (hk:Rw s W k):Gw (off s k) g ks W:=⟨h.g,fun j hj=>(h.r j hj).off hk,h.h1,h.h2,h.w1,h.w2⟩
theorem FN {j:Nat} (hk:Rw s W k):ln (off s k) j=if j=k then ⟨(ln s k).Cells,false⟩ else ln s j:=by
 by_cases e:k=j
 ·subst e;rw [af rfl];exact mG (qP hk.lt)
 ·rw [ag (tv e)];unfold ln;rw [show (Go.Proofs.YtidapncdmjppeaaGreatDoor.off s k).row_Row[j]? = s.row_Row[j]? from xQ e]
theorem yp (x:bR) (j:Nat):ln (s.sg g x) j=ln s j:=rfl
def offa (s:Sto) (ks:List Nat) (F:Nat):Sto:=if F=0 then s else off s (ks.getD (F - 1) 0)
theorem uA (h:Gw s g ks W) {F:Nat} {p:List Nat} (hp:F+p.length≤ks.length) (hr:∀k∈p,Rw s W k) (st:fP) (hF:st.from_=(F:Int)):
  ed s st (some g) (p.map some)=some (offa (s.sg g ⟨(ov ks F p).map some⟩) (ov ks F p) F)∧Gw (s.sg g ⟨(ov ks F p).map some⟩) g (ov ks F p) W:=by
 have hh:=h.h2;have key:∀i,i≤p.length→Gw (s.sg g ⟨(ov ks F (p.take i)).map some⟩) g (ov ks F (p.take i)) W:=fun i hi=>
  ⟨Ce (cD h.g),fun k hk=>by
   unfold ov at hk;rw [tQ,tQ] at hk;rcases hk with (hk | hk) | hk
   ·exact h.r k (dP hk)
   ·exact hr k (dP hk)
   ·exact h.r k (iV hk),by rw [sL (by simp; omega)]; exact h.h1,by rw [sL (by simp; omega)]; exact h.h2,h.w1,h.w2⟩
 have kend:=key p.length (ao _);rw [dW] at kend;refine ⟨?_,kend⟩;unfold ed;rw [hF];obtain ⟨t,h1,h2⟩:=dY (σ:=Int×Sto) (τ:=Sto) (n:=p.length) (fuel:=(((p.map some).length:Int) - 0).toNat+1) (s:=((0:Int),s))
  (fun i q=>q=((i:Int),s.sg g ⟨(ov ks F (p.take i)).map some⟩)) (fun t=>t=s.sg g ⟨(ov ks F p).map some⟩)
  (step:=fun s_7=>
 if (decide (s_7.1 < ((p.map some).length:Int)))=true then
 (idx (p.map some) s_7.1).bind fun x_11=>
 (dR s_7.2 (some g) (w64 ((F:Int)+s_7.1)) x_11).bind fun x_22=>
 some (.inl ((w64 (s_7.1+1)),x_22.1))
 else
 some (.inr (s_7.2)))
  (fun i q hi e=>by
   subst e;refine .inl ⟨_,?_,rfl⟩;have e5:w64 ((i:Int)+1)=((i+1:Nat):Int):=by rw [aN (by omega)]; simp
   have e6:w64 ((F:Int)+(i:Int))=((F+i:Nat):Int):=by rw [aN (by omega)]; simp
   have hd:decide ((i:Int) < ((p.map some).length:Int))=true:=by simp; exact hi
   have hi2:i < (p.map some).length:=by simpa using hi
   have hk:=key i (Nat.le_of_lt hi);simp only [hd,bF,bp hi2,bsm,eK,e5,e6];have hl:(ov ks F (p.take i)).length=ks.length:=sL (by simp; omega);rw [yB hk (show F+i < (ov ks F (p.take i)).length by omega) (hr _ (aJ hi))];simp only [bsm];rw [FG hp hi,GH])
  (fun q e=>by
   subst e;rw [dW];exact ⟨_,by simp,rfl⟩)
  (by
   simp only [lq,jl];refine ⟨rfl,(GI ?_).symm⟩;rw [h.g];simp [ov]) (by simp)
 subst h2;rw [h1];simp only [bsm];unfold offa;by_cases h0:F=0
 ·subst h0;rw [af rfl,rQ kend (by left; rw [aN (by omega)]; omega)];rfl
 ·have e7:w64 ((F:Int) - 1)=((F - 1:Nat):Int):=by rw [aN (by omega)]; omega
  have hl:(ov ks F p).length=ks.length:=sL hp;have hlt:F - 1 < (ov ks F p).length:=by omega
  rw [ag h0,e7,eu kend hlt];simp only [bsm];rw [yD (kend.at hlt),av,ab hlt];rfl
def dl:ah:=⟨[],false⟩
def mvb (W:Nat) (L:List ah) (F T m:Nat) (up:Bool) (i:Nat):ah:=
 if F≤i∧i < T then (if up=true then (if i+m < T then L.getD (i+m) dl else ⟨List.replicate W bl,false⟩) else (if F+m≤i then L.getD (i - m) dl else ⟨List.replicate W bl,false⟩)) else L.getD i dl
def mvl (W:Nat) (L:List ah) (F T m:Nat) (up:Bool) (i:Nat):ah:=
 if i+1=F∨(up=false∧i+1=T) then ⟨(mvb W L F T m up i).Cells,false⟩ else mvb W L F T m up i
def mv (W:Nat) (L:List ah) (F T:Nat) (n:Int) (up:Bool):List ah:=
 if F < T∧0 < n then (List.range L.length).map (mvl W L F T (min n ((T:Int) - (F:Int))).toNat up) else L
theorem gd {i:Nat} (h:i < ks.length):ks.getD i 0=ks[i]:=by rw [av,ab h]; rfl
theorem gdl {L:List ah} {i:Nat} (h:i < L.length):L.getD i dl=L[i]:=by rw [av,ab h]; rfl
theorem Az (nd:ks.Nodup) {i j:Nat} (hj:j < ks.length) (hij:i < j):ks.getD i 0≠ks.getD j 0:=by
 rw [gd hj,gd (Nat.lt_trans hij hj)];exact List.pairwise_iff_getElem.1 nd i j _ _ hij
theorem CJ {h:Nat} {f:Nat→Nat} (hf:∀i j,i < j→j < h→f i≠f j):((List.range h).map f).Nodup:=by
 rw [List.Nodup,List.pairwise_map];exact List.pairwise_lt_range.imp_of_mem fun _ hb hlt=>hf _ _ hlt (List.mem_range.1 hb)
def kfu (ks:List Nat) (N F T m i:Nat):Nat:=if i < F∨T≤i then ks.getD i 0 else if i+m < T then ks.getD (i+m) 0 else N+(i+m - T)
def kfd (ks:List Nat) (N F T m i:Nat):Nat:=if i < F∨T≤i then ks.getD i 0 else if i < F+m then N+(i - F) else ks.getD (i - m) 0
theorem GQ {F T m:Nat} (N:Nat) (h1:F+m≤T) (h2:T≤ks.length):ov ks F ((ks.drop (F+m)).take (T - (F+m))++List.range' N m)=(List.range ks.length).map (kfu ks N F T m):=by
 refine bZ fun i=>?_;rcases aL i ks.length with hi | hi
 ·rw [bm,dh hi,fk];have e:((ks.drop (F+m)).take (T - (F+m))++List.range' N m).length=T - F:=by simp; omega
  have et:(ks.take F).length=F:=by simp; omega
  have ex:((ks.drop (F+m)).take (T - (F+m))).length=T - (F+m):=by simp; omega
  unfold ov;rw [e,aI,eL,et];unfold kfu;by_cases c1:i < F
  ·rw [af c1,af (Or.inl c1),aP,af c1,gd hi,ab hi]
  ·rw [ag c1,eL,e];by_cases c2:T≤i
   ·rw [ag (by omega),af (Or.inr c2),bM,show F+(T - F)+(i - F - (T - F))=i by omega,gd hi,ab hi]
   ·rw [af (by omega),ag (by omega),eL,ex];by_cases c3:i+m < T
    ·rw [af (by omega),af c3,aP,af (by omega),bM,show F+m+(i - F)=i+m by omega,gd (by omega),ab (by omega)]
    ·rw [ag (by omega),ag c3,Hk (by omega),mw]
     congr 1
     omega
 ·rw [aR (by rw [sL (by simp; omega)]; exact hi),aR (by simpa using hi)]
theorem Eg {F T m:Nat} (N:Nat) (h1:F+m≤T) (h2:T≤ks.length):ov ks F (List.range' N m++(ks.drop F).take (T - m - F))=(List.range ks.length).map (kfd ks N F T m):=by
 refine bZ fun i=>?_;rcases aL i ks.length with hi | hi
 ·rw [bm,dh hi,fk];have e:(List.range' N m++(ks.drop F).take (T - m - F)).length=T - F:=by simp; omega
  have et:(ks.take F).length=F:=by simp; omega
  have ex:(List.range' N m).length=m:=by simp
  unfold ov;rw [e,aI,eL,et];unfold kfd;by_cases c1:i < F
  ·rw [af c1,af (Or.inl c1),aP,af c1,gd hi,ab hi]
  ·rw [ag c1,eL,e];by_cases c2:T≤i
   ·rw [ag (by omega),af (Or.inr c2),bM,show F+(T - F)+(i - F - (T - F))=i by omega,gd hi,ab hi]
   ·rw [af (by omega),ag (by omega),eL,ex];by_cases c3:i < F+m
    ·rw [af (by omega),af c3,Hk (by omega),mw]
    ·rw [ag (by omega),ag c3,aP,af (by omega),bM,show F+(i - F - m)=i - m by omega,gd (by omega),ab (by omega)]
 ·rw [aR (by rw [sL (by simp; omega)]; exact hi),aR (by simpa using hi)]
theorem FS (nd:ks.Nodup) {N F T m:Nat} (hN:∀k∈ks,k < N) (h1:F+m≤T) (h2:T≤ks.length) (i j:Nat) (hij:i < j) (hj:j < ks.length):kfu ks N F T m i≠kfu ks N F T m j:=by
 have lt:∀i,i < ks.length→ks.getD i 0 < N:=fun i hi=>by rw [gd hi]; exact hN _ (aJ hi)
 have ne:∀a b,a < b→b < ks.length→ks.getD a 0≠ks.getD b 0:=fun a b hab hb=>Az nd hb hab;have ne2:∀a b,b < a→a < ks.length→ks.getD a 0≠ks.getD b 0:=fun a b hab ha=>(Az nd ha hab).symm;unfold kfu
 repeat' split
 all_goals first
  | exact ne _ _ (by omega) (by omega)
  | exact ne2 _ _ (by omega) (by omega)
  | (have:=lt i (by omega); omega)
  | (have:=lt j (by omega); omega)
  | (have:=lt (i+m) (by omega); omega)
  | (have:=lt (j+m) (by omega); omega)
  | omega
theorem FT (nd:ks.Nodup) {N F T m:Nat} (hN:∀k∈ks,k < N) (h1:F+m≤T) (h2:T≤ks.length) (i j:Nat) (hij:i < j) (hj:j < ks.length):kfd ks N F T m i≠kfd ks N F T m j:=by
 have lt:∀i,i < ks.length→ks.getD i 0 < N:=fun i hi=>by rw [gd hi]; exact hN _ (aJ hi)
 have ne:∀a b,a < b→b < ks.length→ks.getD a 0≠ks.getD b 0:=fun a b hab hb=>Az nd hb hab;have ne2:∀a b,b < a→a < ks.length→ks.getD a 0≠ks.getD b 0:=fun a b hab ha=>(Az nd ha hab).symm;unfold kfd
 repeat' split
 all_goals first
  | exact ne _ _ (by omega) (by omega)
  | exact ne2 _ _ (by omega) (by omega)
  | (have:=lt i (by omega); omega)
  | (have:=lt j (by omega); omega)
  | (have:=lt (i - m) (by omega); omega)
  | (have:=lt (j - m) (by omega); omega)
  | omega
theorem xc {h:Nat} {f:Nat→Nat} {B:Nat→ah} (hf:∀i j,i < j→j < h→f i≠f j) (hB:∀i,i < h→ln s (f i)=B i) {j:Nat} (hj:j < h) (hk:Rw s W (f j)) (i:Nat) (hi:i < h):
  ln (off s (f j)) (f i)=if i=j then ⟨(B j).Cells,false⟩ else B i:=by
 rw [FN hk,hB j hj];by_cases e:i=j
 ·subst e; rw [af rfl,af rfl]
 ·rw [ag,ag e,hB i hi];rcases HJ e with h | h
  ·exact hf i j h hj
  ·exact (hf j i h hi).symm
theorem yk (s:Sto) (ks:List Nat) (F:Nat):(offa s ks F).rst=s.rst:=by
 unfold offa;split <;> rfl
theorem kM {h i:Nat} {f:Nat→Nat} (hi:i < h):((List.range h).map f).getD i 0=f i:=by
 rw [gd (by simpa using hi)];simp
structure Rf (s s':Sto) (g:Nat) (ks:List Nat) (g':Nat) (ks':List Nat):Prop where
 gl:s.grid_Grid.length≤s'.grid_Grid.length
 rl:s.row_Row.length≤s'.row_Row.length
 gr:∀j,j < s.grid_Grid.length→j≠g→s'.grid_Grid[j]? = s.grid_Grid[j]?
 rw:∀j,j < s.row_Row.length→j∉ks→s'.row_Row[j]? = s.row_Row[j]?
 ng:g'=g∨s.grid_Grid.length≤g'
 nr:∀r∈ks',r∈ks∨s.row_Row.length≤r
theorem Rf.self (s:Sto) (g:Nat) (ks:List Nat):Rf s s g ks g ks:=⟨ao _,ao _,fun _ _ _=>rfl,fun _ _ _=>rfl,.inl rfl,fun _ h=> .inl h⟩
theorem Rf.rowoff {s':Sto} {ks':List Nat} (h:Rf s s' g ks g ks') {i:Nat} (hi:i∈ks'):Rf s (off s' i) g ks g ks':=by
 have e:(off s' i).row_Row=s'.row_Row.set i ⟨(ln s' i).Cells,false⟩:=rfl;refine ⟨h.gl,by rw [e,cf]; exact h.rl,h.gr,fun j h1 h2=>?_,h.ng,h.nr⟩;rw [e,aU ?_]
 ·exact h.rw j h1 h2
 ·rintro rfl;rcases h.nr _ hi with q | q
  ·exact h2 q
  ·omega
theorem Rf.aboff {s':Sto} {ks':List Nat} (h:Rf s s' g ks g ks') (F:Nat) (hF:F≤ks'.length):Rf s (offa s' ks' F) g ks g ks':=by
 unfold Go.Proofs.YtidapncdmjppeaaGreatDoor.offa;split
 ·exact h
 ·refine h.rowoff ?_;rw [gd (by omega)];exact aJ _
theorem Rf.lay (xs:List bc) (x:bR) {ks':List Nat} (h:∀r∈ks',r∈ks∨s.row_Row.length≤r):Rf s ((s.addr xs).sg g x) g ks g ks':=by
 have e:((s.addr xs).sg g x).row_Row=s.row_Row++xs:=rfl;have e2:((s.addr xs).sg g x).grid_Grid=s.grid_Grid.set g x:=rfl;exact ⟨by rw [e2,cf]; exact ao _,by rw [e,aj]; omega,fun j _ hj=>by rw [e2,aU (tv hj)],fun j hj _=>by rw [e,aB hj],.inl rfl,h⟩
theorem Em {N F T m:Nat} (hm:T≤ks.length) {r:Nat} (hr:r∈(List.range ks.length).map (kfu ks N F T m)):r∈ks∨N≤r:=by
 obtain ⟨i,hi,rfl⟩:=List.mem_map.1 hr;have hi:=List.mem_range.1 hi;unfold kfu;split
 ·rw [gd hi]; exact .inl (aJ _)
 ·split
  ·rw [gd (by omega)]; exact .inl (aJ _)
  ·exact .inr (by omega)
theorem Eo {N F T m:Nat} (hm:T≤ks.length) {r:Nat} (hr:r∈(List.range ks.length).map (kfd ks N F T m)):r∈ks∨N≤r:=by
 obtain ⟨i,hi,rfl⟩:=List.mem_map.1 hr;have hi:=List.mem_range.1 hi;unfold kfd;split
 ·rw [gd hi]; exact .inl (aJ _)
 ·split
  ·exact .inr (by omega)
  ·rw [gd (by omega)]; exact .inl (aJ _)
theorem zv (h:Gw s g ks W) (nd:ks.Nodup) (a b n:Int):∃s' ks',jx s (some g) a b n=some s'∧(Gw s' g ks' W∧ks'.Nodup∧ks'.length=ks.length∧
  ks'.map (ln s')=mv W (ks.map (ln s)) (cl a ks.length) (cl b ks.length) n true)∧s'.rst=s.rst∧Rf s s' g ks g ks':=by
 have hF:=mo a ks.length;have hT:=mo b ks.length;have hh:=h.h2;have hN:∀k∈ks,k < s.row_Row.length:=fun k hk=>(h.r k hk).lt;unfold jx;rw [wj h];simp only [bsm];generalize cl a ks.length=F at *;generalize cl b ks.length=T at *;unfold mv;by_cases hc:F < T∧0 < n
 ·obtain ⟨m,hm⟩:∃m:Nat,min n ((T:Int) - (F:Int))=(m:Int):=⟨(min n ((T:Int) - (F:Int))).toNat,by omega⟩;have hm2:F+m≤T∧1≤m:=by omega
  rw [af (by simp; omega),af hc,hm,aN (by omega),show ((F:Int)+(m:Int))=((F+m:Nat):Int) by simp,tE h hm2.1 hT];simp only [bsm];rw [qC h (by omega)];simp only [bsm];rw [cY (by simp; omega),←bA];simp only [bsm];have h1:=h.addr (xs:=List.replicate m (bk W));have hlen:((ks.drop (F+m)).take (T - (F+m))++List.range' s.row_Row.length m).length=T - F:=by simp; omega
  obtain ⟨h3,h4⟩:=uA h1 (F:=F) (p:=(ks.drop (F+m)).take (T - (F+m))++List.range' s.row_Row.length m) (by rw [hlen]; omega) (fun k hk=>by
   rcases List.mem_append.1 hk with hk | hk
   ·exact h1.r k (iV (dP hk))
   ·rw [zr] at hk;have:=ss (s:=s) (xs:=List.replicate m (bk W)) (i:=k - s.row_Row.length) (by simp; omega);rw [show s.row_Row.length+(k - s.row_Row.length)=k by omega,gQ] at this;exact ⟨_,this,pi W,by simp [bk]⟩) ⟨(F:Int),(T:Int),(m:Int)⟩ rfl
  rw [h3];rw [GQ s.row_Row.length hm2.1 hT] at h4⊢;have ne:=FS nd (N:=s.row_Row.length) (F:=F) (T:=T) (m:=m) hN hm2.1 hT;have hB:∀i,i < ks.length→ln ((s.addr (List.replicate m (bk W))).sg g ⟨((List.range ks.length).map (kfu ks s.row_Row.length F T m)).map some⟩) (kfu ks s.row_Row.length F T m i)=mvb W (ks.map (ln s)) F T m true i:=by
   intro i hi;rw [yp];have old:∀j,j < ks.length→ln (s.addr (List.replicate m (bk W))) (ks.getD j 0)=(ks.map (ln s)).getD j dl:=fun j hj=>by
    rw [gdl (by simpa using hj),gd hj,uH (hN _ (aJ hj)),eK]
   unfold kfu mvb;by_cases c1:i < F∨T≤i
   ·rw [af c1,ag (show ¬(F≤i∧i < T) by omega),old i hi]
   ·rw [ag c1,af (show F≤i∧i < T by omega),af rfl];by_cases c2:i+m < T
    ·rw [af c2,af c2,old _ (by omega)]
    ·rw [ag c2,ag c2,CM (by simp; omega),gQ];rfl
  refine ⟨_,(List.range ks.length).map (kfu ks s.row_Row.length F T m),rfl,⟨?_,CJ ne,by simp,?_⟩,yk _ _ _,(Rf.lay _ _ fun r hr=>Em hT hr).aboff F (by simp; omega)⟩
  ·unfold offa;split
   ·exact h4
   ·refine h4.off ?_;rw [kM (by omega)];exact h4.r _ (List.mem_map.2 ⟨F - 1,List.mem_range.2 (by omega),rfl⟩)
  ·rw [eF,Gt];refine ek fun i hi=>?_;have hi:=List.mem_range.1 hi;simp only [Function.comp,aZ];unfold offa mvl;by_cases h0:F=0
   ·rw [af h0,ag (by simp; omega),hB i hi]
   ·rw [ag h0,kM (by omega),xc ne hB (by omega) (h4.r _ (List.mem_map.2 ⟨F - 1,List.mem_range.2 (by omega),rfl⟩)) i hi];by_cases e:i=F - 1
    ·rw [af e,af (by omega),e]
    ·rw [ag e,ag (by simp; omega)]
 ·rw [ag (by simp; omega),ag hc];exact ⟨s,ks,rfl,⟨h,nd,rfl,rfl⟩,rfl,Rf.self _ _ _⟩
theorem yJ (h:Gw s g ks W) (nd:ks.Nodup) (a b n:Int):∃s' ks',iZ s (some g) a b n=some s'∧(Gw s' g ks' W∧ks'.Nodup∧ks'.length=ks.length∧
  ks'.map (ln s')=mv W (ks.map (ln s)) (cl a ks.length) (cl b ks.length) n false)∧s'.rst=s.rst∧Rf s s' g ks g ks':=by
 have hF:=mo a ks.length;have hT:=mo b ks.length;have hh:=h.h2;have hN:∀k∈ks,k < s.row_Row.length:=fun k hk=>(h.r k hk).lt;unfold iZ;rw [wj h];simp only [bsm];generalize cl a ks.length=F at *;generalize cl b ks.length=T at *;unfold mv;by_cases hc:F < T∧0 < n
 ·obtain ⟨m,hm⟩:∃m:Nat,min n ((T:Int) - (F:Int))=(m:Int):=⟨(min n ((T:Int) - (F:Int))).toNat,by omega⟩;have hm2:F+m≤T∧1≤m:=by omega
  have h1:=h.addr (xs:=List.replicate m (bk W));rw [af (by simp; omega),af hc,hm,qC h (by omega)];simp only [bsm];rw [aN (by omega),show ((T:Int) - (m:Int))=((T - m:Nat):Int) by omega,tE h1 (by omega) (by omega)];simp only [bsm];rw [cY (by simp; omega),←bA];simp only [bsm];have hlen:(List.range' s.row_Row.length m++(ks.drop F).take (T - m - F)).length=T - F:=by simp; omega
  obtain ⟨h3,h4⟩:=uA h1 (F:=F) (p:=List.range' s.row_Row.length m++(ks.drop F).take (T - m - F)) (by rw [hlen]; omega) (fun k hk=>by
   rcases List.mem_append.1 hk with hk | hk
   ·rw [zr] at hk;have:=ss (s:=s) (xs:=List.replicate m (bk W)) (i:=k - s.row_Row.length) (by simp; omega);rw [show s.row_Row.length+(k - s.row_Row.length)=k by omega,gQ] at this;exact ⟨_,this,pi W,by simp [bk]⟩
   ·exact h1.r k (iV (dP hk))) ⟨(F:Int),(T:Int),(m:Int)⟩ rfl
  rw [h3];rw [Eg s.row_Row.length hm2.1 hT] at h4⊢;have ne:=FT nd (N:=s.row_Row.length) (F:=F) (T:=T) (m:=m) hN hm2.1 hT;have hB:∀i,i < ks.length→ln ((s.addr (List.replicate m (bk W))).sg g ⟨((List.range ks.length).map (kfd ks s.row_Row.length F T m)).map some⟩) (kfd ks s.row_Row.length F T m i)=mvb W (ks.map (ln s)) F T m false i:=by
   intro i hi;rw [yp];have old:∀j,j < ks.length→ln (s.addr (List.replicate m (bk W))) (ks.getD j 0)=(ks.map (ln s)).getD j dl:=fun j hj=>by
    rw [gdl (by simpa using hj),gd hj,uH (hN _ (aJ hj)),eK]
   unfold kfd mvb;by_cases c1:i < F∨T≤i
   ·rw [af c1,ag (show ¬(F≤i∧i < T) by omega),old i hi]
   ·rw [ag c1,af (show F≤i∧i < T by omega),ag (show ¬(false=true) by simp)];by_cases c2:i < F+m
    ·rw [af c2,ag (show ¬(F+m≤i) by omega),CM (by simp; omega),gQ];rfl
    ·rw [ag c2,af (show F+m≤i by omega),old _ (by omega)]
  have hmem:∀j,j < ks.length→kfd ks s.row_Row.length F T m j∈(List.range ks.length).map (kfd ks s.row_Row.length F T m):=fun j hj=>List.mem_map.2 ⟨j,List.mem_range.2 hj,rfl⟩;have h5:Gw (offa ((s.addr (List.replicate m (bk W))).sg g ⟨((List.range ks.length).map (kfd ks s.row_Row.length F T m)).map some⟩) ((List.range ks.length).map (kfd ks s.row_Row.length F T m)) F) g ((List.range ks.length).map (kfd ks s.row_Row.length F T m)) W:=by
   unfold offa;split
   ·exact h4
   ·refine h4.off ?_;rw [kM (by omega)];exact h4.r _ (hmem _ (by omega))
  have hC:∀i,i < ks.length→ln (offa ((s.addr (List.replicate m (bk W))).sg g ⟨((List.range ks.length).map (kfd ks s.row_Row.length F T m)).map some⟩) ((List.range ks.length).map (kfd ks s.row_Row.length F T m)) F) (kfd ks s.row_Row.length F T m i)=
    if i+1=F then ⟨(mvb W (ks.map (ln s)) F T m false i).Cells,false⟩ else mvb W (ks.map (ln s)) F T m false i:=by
   intro i hi;unfold offa;by_cases h0:F=0
   ·rw [af h0,ag (by omega),hB i hi]
   ·rw [ag h0,kM (by omega),xc ne hB (by omega) (h4.r _ (hmem _ (by omega))) i hi];by_cases e:i=F - 1
    ·rw [af e,af (by omega),e]
    ·rw [ag e,ag (by omega)]
  have hlt:T - 1 < ((List.range ks.length).map (kfd ks s.row_Row.length F T m)).length:=by simp; omega
  simp only [bsm];rw [aN (by omega),show ((T:Int) - 1)=((T - 1:Nat):Int) by omega,eu h5 hlt];simp only [bsm];rw [yD (h5.at hlt)];simp only [bsm,eK,xI];refine ⟨_,(List.range ks.length).map (kfd ks s.row_Row.length F T m),rfl,⟨h5.off (h5.r _ (hmem _ (by omega))),CJ ne,by simp,?_⟩,yk _ _ _,((Rf.lay _ _ fun r hr=>Eo hT hr).aboff F (by simp; omega)).rowoff (hmem _ (by omega))⟩;rw [eF,Gt];refine ek fun i hi=>?_;have hi:=List.mem_range.1 hi;simp only [Function.comp,aZ];rw [xc ne hC (by omega) (h5.r _ (hmem _ (by omega))) i hi];unfold mvl;by_cases e:i=T - 1
  ·rw [af e,ag (show ¬(T - 1+1=F) by omega),af (show i+1=F∨(false=false∧i+1=T) from Or.inr ⟨rfl,by omega⟩),e]
  ·rw [ag e];by_cases e2:i+1=F
   ·rw [af e2,af (Or.inl e2)]
   ·rw [ag e2,ag (show ¬(i+1=F∨(false=false∧i+1=T)) by simp; omega)]
 ·rw [ag (by simp; omega),ag hc];exact ⟨s,ks,rfl,⟨h,nd,rfl,rfl⟩,rfl,Rf.self _ _ _⟩
theorem pq {L:List ah} (hl:L.length≤1024) (hW:W≤1024) (hL:∀x∈L,x.Cells.length=W) (a b n:Int) (up:Bool):
  fc L a b n up=some (mv W L (cl a L.length) (cl b L.length) n up):=by
 have hF:=mo a L.length;have hT:=mo b L.length;unfold fc;simp only [icl,bQ,bsm];generalize cl a L.length=F at *;generalize cl b L.length=T at *;unfold mv;by_cases hc:F < T∧0 < n
 ·obtain ⟨m,hm⟩:∃m:Nat,min n ((T:Int) - (F:Int))=(m:Int):=⟨(min n ((T:Int) - (F:Int))).toNat,by omega⟩;have hm2:F+m≤T∧1≤m:=by omega
  rw [ag (by rw [aF,an,an]; omega),af hc,aN (by omega),dF,hm,aZ];obtain ⟨t,h1,h2⟩:=dY (σ:=(List ah)×Int) (τ:=List ah) (n:=L.length) (fuel:=((L.length:Int) - 0).toNat+1) (s:=(([]:List ah),0))
   (fun i q=>q=((List.range i).map (mvl W L F T m up),(i:Int))) (fun t=>t=(List.range L.length).map (mvl W L F T m up))
   (step:=fun s_41=>
 if (decide (s_41.2 < (L.length:Int)))=true then
 (idx L s_41.2).bind fun x_48=>
 ((bL (decide (s_41.2≥(F:Int))) (some (decide (s_41.2 < (T:Int))))).bind fun d_57=>
 if d_57=true then
 (if (!up)=true then
 (some ((w64 (s_41.2 - (m:Int)))):Option (Int))
 else
 (some ((w64 (s_41.2+(m:Int)))):Option (Int))).bind fun z_68=>
 (idx L s_41.2).bind fun x_79=>
 (rep (x_79.Cells.length:Int) (⟨0,([]:List Int)⟩:aa)).bind fun x_83=>
 (bL (decide (z_68≥(F:Int))) (some (decide (z_68 < (T:Int))))).bind fun d_90=>
 if d_90=true then
 (idx L z_68).bind fun x_98=>
 (some (x_98.Cells,x_98.Wrap):Option ((List aa)×Bool))
 else
 (some (x_83,false):Option ((List aa)×Bool))
 else
 (some (x_48.Cells,x_48.Wrap):Option ((List aa)×Bool))).bind fun z_53=>
 ((orE ((w64 (s_41.2+1))==(F:Int)) ((bL (!up) (some ((w64 (s_41.2+1))==(T:Int)))).bind fun d_111=>
 some d_111)).bind fun d_107=>
 if d_107=true then
 (some (false):Option (Bool))
 else
 (some (z_53.2):Option (Bool))).bind fun z_102=>
 (app s_41.1 ([(⟨z_53.1,z_102⟩:ah)]:List ah)).bind fun x_124=>
 some (.inl (x_124,(w64 (s_41.2+1))))
 else
 some (.inr (s_41.1)))
   (fun i q hi e=>by
    subst e;refine .inl ⟨_,?_,rfl⟩;have e5:w64 ((i:Int)+1)=((i+1:Nat):Int):=by rw [aN (by omega)]; simp
    have hd:decide ((i:Int) < (L.length:Int))=true:=by simp; exact hi
    have hlw:=hL _ (aJ hi);simp only [hd,bF,bp hi,bsm,e5,aV];have hz:(if (decide ((i:Int)≥(F:Int)) && decide ((i:Int) < (T:Int)))=true then
      (if (!up)=true then (some ((w64 ((i:Int) - (m:Int)))):Option (Int)) else (some ((w64 ((i:Int)+(m:Int)))):Option (Int))).bind fun z_68=>
      (rep (L[i].Cells.length:Int) (⟨0,([]:List Int)⟩:aa)).bind fun x_83=>
      if (decide (z_68≥(F:Int)) && decide (z_68 < (T:Int)))=true then
      (idx L z_68).bind fun x_98=>(some (x_98.Cells,x_98.Wrap):Option ((List aa)×Bool))
      else (some (x_83,false):Option ((List aa)×Bool))
      else (some (L[i].Cells,L[i].Wrap):Option ((List aa)×Bool)))=some ((mvb W L F T m up i).Cells,(mvb W L F T m up i).Wrap):=by
     unfold mvb;by_cases c1:F≤i∧i < T
     ·rw [af (by simp; omega),af c1]
      cases up with
      | true=>
       rw [ag (by simp),af rfl];simp only [bsm];rw [ox _ (by omega),aN (by omega),show ((i:Int)+(m:Int))=((i+m:Nat):Int) by simp];simp only [bsm];by_cases c2:i+m < T
       ·rw [af (by simp; omega),af c2,bp (show i+m < L.length by omega),gdl (by omega)];rfl
       ·rw [ag (by simp; omega),ag c2,aZ,hlw];rfl
      | false=>
       rw [af (by simp),ag (by simp)];simp only [bsm];rw [ox _ (by omega),aN (by omega)];simp only [bsm];by_cases c2:F+m≤i
       ·rw [show ((i:Int) - (m:Int))=((i - m:Nat):Int) by omega,af (by simp; omega),af c2,bp (show i - m < L.length by omega),gdl (by omega)];rfl
       ·rw [ag (by simp; omega),ag c2,aZ,hlw];rfl
     ·rw [ag (by simp; omega),ag c1,gdl hi]
    rw [hz];simp only [bsm];have hy:(orE (((i+1:Nat):Int)==(F:Int)) (some (!up && (((i+1:Nat):Int)==(T:Int)))))=some (decide (i+1=F∨(up=false∧i+1=T))):=by
     rw [bQ]
     congr 1
     rw [cG];simp only [aF,aX,aw,em,an,Int.ofNat_inj]
    rw [hy];simp only [bsm];have hx:∀y:Bool,(if decide (i+1=F∨(up=false∧i+1=T))=true then (some false:Option Bool) else some y)=some (if i+1=F∨(up=false∧i+1=T) then false else y):=fun y=>by
     by_cases c:i+1=F∨(up=false∧i+1=T)
     ·rw [af (by simpa using c),af c]
     ·rw [ag (by simpa using c),ag c]
    rw [hx];simp only [bsm];rw [cY (by simp; omega)];simp only [bsm];have hz3:(⟨(mvb W L F T m up i).Cells,if i+1=F∨(up=false∧i+1=T) then false else (mvb W L F T m up i).Wrap⟩:ah)=mvl W L F T m up i:=by
     unfold mvl;split <;> rfl
    rw [hz3,Ib,bA];rfl)
   (fun q e=>⟨_,by subst e; simp,rfl⟩)
   (by simp) (by omega)
  subst h2;rw [h1];rfl
 ·rw [af (by rw [aF,an,an]; omega),ag hc]
end Go.Proofs.YtidapncdmjppeaaGreatDoor
namespace Go.Proofs.YtidapncdmjppeaaGreatDoor
open Go Go.Lt
variable {s C:Sto} {g k W:Nat} {ks:List Nat} {l p:List aa} {w:Bool} {q:ae}
def Sto.sp (s:Sto) (k:Nat) (x:bd):Sto:={ s with place_Pen:=s.place_Pen.set k x}
theorem gF {x:bd} (h:k < s.place_Pen.length):s.set_place_Pen k x=some (s.sp k x):=by
 simp only [Sto.set_place_Pen,h,bF];rfl
theorem wN {x:bd} (h:k < s.place_Pen.length):(s.sp k x).place_Pen[k]? = some x:=by simp [Sto.sp,h]
theorem wh (s:Sto) (k:Nat) (x y:bd):(s.sp k x).sp k y=s.sp k y:=by simp [Sto.sp]
theorem Gw.sp (h:Gw s g ks W) (k:Nat) (x:bd):Gw (s.sp k x) g ks W:=⟨h.g,h.r,h.h1,h.h2,h.w1,h.w2⟩
def ownG (C:Sto) (k g:Nat):Prop:=∃x,C.place_Pen[k]? = some x∧x.G=some g
def ownR (C:Sto) (k r:Nat):Prop:=∃g y,ownG C k g∧C.grid_Grid[g]? = some y∧some r∈y.rows
structure Fr (C s:Sto) (k g:Nat) (ks:List Nat):Prop where
 pl:C.place_Pen.length≤s.place_Pen.length
 gl:C.grid_Grid.length≤s.grid_Grid.length
 rl:C.row_Row.length≤s.row_Row.length
 pn:∀j,j < C.place_Pen.length→j≠k→s.place_Pen[j]? = C.place_Pen[j]?
 gr:∀j,j < C.grid_Grid.length→¬ownG C k j→s.grid_Grid[j]? = C.grid_Grid[j]?
 rw:∀j,j < C.row_Row.length→¬ownR C k j→s.row_Row[j]? = C.row_Row[j]?
 ng:ownG C k g∨C.grid_Grid.length≤g
 nr:∀r∈ks,ownR C k r∨C.row_Row.length≤r
theorem Fr.self {p:bd} (h:s.place_Pen[k]? = some p) (hg:p.G=some g) (hk:s.grid_Grid[g]? = some ⟨ks.map some⟩):Fr s s k g ks:=
 ⟨ao _,ao _,ao _,fun _ _ _=>rfl,fun _ _ _=>rfl,fun _ _ _=>rfl,.inl ⟨p,h,hg⟩,fun r hr=> .inl ⟨g,_,⟨p,h,hg⟩,hk,List.mem_map.2 ⟨r,hr,rfl⟩⟩⟩
theorem Fr.new (h1:C.place_Pen.length≤s.place_Pen.length) (h2:C.grid_Grid.length≤s.grid_Grid.length) (h3:C.row_Row.length≤s.row_Row.length) (h4:∀j,j < C.place_Pen.length→s.place_Pen[j]? = C.place_Pen[j]?)
  (h5:∀j,j < C.grid_Grid.length→s.grid_Grid[j]? = C.grid_Grid[j]?) (h6:∀j,j < C.row_Row.length→s.row_Row[j]? = C.row_Row[j]?) (h7:C.grid_Grid.length≤g) (h8:∀r∈ks,C.row_Row.length≤r):Fr C s k g ks:=
 ⟨h1,h2,h3,fun j a _=>h4 j a,fun j a _=>h5 j a,fun j a _=>h6 j a,.inr h7,fun r hr=> .inr (h8 r hr)⟩
theorem Fr.step {s':Sto} {g':Nat} {ks':List Nat} (h:Fr C s k g ks) (f:Rf s s' g ks g' ks') (hp:s'.place_Pen=s.place_Pen):Fr C s' k g' ks':=by
 refine ⟨by rw [hp]; exact h.pl,dI h.gl f.gl,dI h.rl f.rl,fun j a b=>by rw [hp]; exact h.pn j a b,fun j a b=>?_,fun j a b=>?_,?_,fun r hr=>?_⟩
 ·have:=h.gl;rw [f.gr j (by omega) ?_,h.gr j a b];rintro rfl;rcases h.ng with q | q
  ·exact b q
  ·omega
 ·have:=h.rl;rw [f.rw j (by omega) ?_,h.rw j a b];intro hj;rcases h.nr j hj with q | q
  ·exact b q
  ·omega
 ·rcases f.ng with rfl | q
  ·exact h.ng
  ·exact .inr (dI h.gl q)
 ·rcases f.nr r hr with q | q
  ·exact h.nr r q
  ·exact .inr (dI h.rl q)
theorem Fr.sp (h:Fr C s k g ks) (x:bd):Fr C (s.sp k x) k g ks:=
 ⟨by simp only [Sto.sp,cf]; exact h.pl,h.gl,h.rl,fun j a b=>by simp only [Sto.sp]; rw [aU (tv b)]; exact h.pn j a b,h.gr,h.rw,h.ng,h.nr⟩
theorem Fr.sr (h:Fr C s k g ks) {i:Nat} (hi:i∈ks) (r:bc):Fr C (s.sr i r) k g ks:=by
 refine h.step (s':=s.sr i r) ⟨ao _,by simp [Sto.sr],fun _ _ _=>rfl,fun j _ b=>?_,.inl rfl,fun r hr=> .inl hr⟩ rfl;exact xQ (fun e=>b (e▸ hi))
theorem Fr.addp (h:Fr C s k g ks) (x:bd):Fr C (s.add_place_Pen x) k g ks:=
 ⟨by have:=h.pl; simp only [Sto.add_place_Pen,aj]; omega,h.gl,h.rl,fun j a b=>by have:=h.pl; simp only [Sto.add_place_Pen]; rw [aB (by omega)]; exact h.pn j a b,h.gr,h.rw,h.ng,h.nr⟩
structure Rgp (s s':Sto):Prop where
 r:s'.row_Row=s.row_Row
 g:s'.grid_Grid=s.grid_Grid
 p:s'.place_Pen=s.place_Pen
theorem Rgp.self (s:Sto):Rgp s s:=⟨rfl,rfl,rfl⟩
theorem Rgp.symm {s s':Sto} (h:Rgp s s'):Rgp s' s:=⟨h.r.symm,h.g.symm,h.p.symm⟩
theorem Rgp.ownG {s s':Sto} (h:Rgp s s') (k g:Nat):ownG s' k g↔ownG s k g:=by unfold Go.Proofs.YtidapncdmjppeaaGreatDoor.ownG; rw [h.p]
theorem Rgp.ownR {s s':Sto} (h:Rgp s s') (k r:Nat):ownR s' k r↔ownR s k r:=by unfold Go.Proofs.YtidapncdmjppeaaGreatDoor.ownR; rw [h.g]; simp only [h.ownG]
theorem Fr.rgp {C' s':Sto} (h:Fr C s k g ks) (hC:Rgp C C') (hs:Rgp s s'):Fr C' s' k g ks:=by
 refine ⟨by rw [hC.p,hs.p]; exact h.pl,by rw [hC.g,hs.g]; exact h.gl,by rw [hC.r,hs.r]; exact h.rl,?_,?_,?_,?_,?_⟩
 ·rw [hC.p,hs.p]; exact h.pn
 ·rw [hC.g,hs.g]; simp only [hC.ownG]; exact h.gr
 ·rw [hC.r,hs.r]; simp only [hC.ownR]; exact h.rw
 ·rw [hC.g,hC.ownG]; exact h.ng
 ·rw [hC.r]; simp only [hC.ownR]; exact h.nr
theorem Fr.trans {B:Sto} {g0:Nat} {ks0:List Nat} (h:Fr B C k g0 ks0) (hg:∀j,ownG C k j→j=g0) (hr:∀j,ownR C k j→j∈ks0) (h':Fr C s k g ks):Fr B s k g ks:=by
 have hl:=h.gl;have hl2:=h.rl;have hl3:=h.pl;refine ⟨dI h.pl h'.pl,dI h.gl h'.gl,dI h.rl h'.rl,fun j a b=>?_,fun j a b=>?_,fun j a b=>?_,?_,fun r hr'=>?_⟩
 ·rw [h'.pn j (by omega) b,h.pn j a b]
 ·rw [h'.gr j (by omega) ?_,h.gr j a b];intro q;obtain rfl:=hg j q;rcases h.ng with q | q
  ·exact b q
  ·omega
 ·rw [h'.rw j (by omega) ?_,h.rw j a b];intro q;rcases h.nr j (hr j q) with q | q
  ·exact b q
  ·omega
 ·rcases h'.ng with q | q
  ·obtain rfl:=hg g q; exact h.ng
  ·exact .inr (by omega)
 ·rcases h'.nr r hr' with q | q
  ·exact h.nr r (hr r q)
  ·exact .inr (by omega)
structure Pv (C s:Sto) (k g_ W:Nat) (q:ae) (ks:List Nat):Prop where
 p:s.place_Pen[k]? = some ⟨some g_,q.At,q.Auto⟩
 g:Gw s g_ ks W
 nd:ks.Nodup
 l:ks.map (ln s)=q.L
 o:s.oth=C.oth
 f:Fr C s k g_ ks
theorem Pv.self (h:Pv C s k g W q ks):Pv s s k g W q ks:=⟨h.p,h.g,h.nd,h.l,rfl,Fr.self h.p rfl h.g.g⟩
theorem Pv.oG (h:Pv C s k g W q ks) (j:Nat) (hj:ownG s k j):j=g:=by
 obtain ⟨x,h1,h2⟩:=hj;rw [h.p] at h1;cases h1;exact (aq h2).symm
theorem Pv.oR (h:Pv C s k g W q ks) (j:Nat) (hj:ownR s k j):j∈ks:=by
 obtain ⟨g',y,h1,h2,h3⟩:=hj;obtain rfl:=h.oG g' h1;rw [h.g.g] at h2;cases h2;obtain ⟨r,h4,h5⟩:=List.mem_map.1 h3;cases h5;exact h4
theorem Pv.len (h:Pv C s k g W q ks):q.L.length=ks.length:=by rw [←h.l,eF]
theorem Pv.ok (h:Pv C s k g W q ks):∀x∈q.L,Okl W x:=by rw [←h.l]; exact vM h.g
theorem Pv.at (h:Pv C s k g W q ks) {i:Nat} (hi:i < ks.length):q.L[i]'(by rw [h.len]; exact hi)=ln s ks[i]:=by
 have:=h.l;have e:q.L[i]? = (ks.map (ln s))[i]? :=by rw [this]
 rw [ab (by rw [h.len]; exact hi),bm,ab hi] at e;exact aq e
theorem Pv.set (h:Pv C s k g W q ks) (c:ai) (a:Bool):Pv C (s.sp k ⟨some g,c,a⟩) k g W ⟨q.L,c,a⟩ ks:=
 ⟨wN (cD h.p),h.g.sp _ _,h.nd,h.l,h.o,h.f.sp _⟩
theorem Pv.row (h:Pv C s k g W q ks) {i:Nat} (hi:i < ks.length) {r:bc} (hr:Snd r.cells) (hl:r.cells.length=W):Pv C (s.sr ks[i] r) k g W ⟨q.L.set i ⟨r.cells,r.wrap⟩,q.At,q.Auto⟩ ks:=by
 have hlt:=(h.g.at hi).lt;refine ⟨h.p,⟨h.g.g,fun j hj=>?_,h.g.h1,h.g.h2,h.g.w1,h.g.w2⟩,h.nd,?_,h.o,h.f.sr (aJ hi) _⟩
 ·by_cases e:ks[i]=j
  ·subst e; exact ⟨r,qP hlt,hr,hl⟩
  ·obtain ⟨r0,h1,h2⟩:=h.g.r j hj;exact ⟨r0,(xQ e).trans h1,h2⟩
 ·refine bZ fun j=>?_;rw [bm,kJ];rcases aL j ks.length with hj | hj
  ·rw [ab hj,fk];by_cases e:i=j
   ·subst e;rw [af rfl,af (by rw [h.len]; exact hi),mG (qP hlt)]
   ·have hne:ks[i]≠ks[j]:=by
     rcases HJ e with h1 | h1
     ·exact List.pairwise_iff_getElem.1 h.nd i j _ _ h1
     ·exact (List.pairwise_iff_getElem.1 h.nd j i _ _ h1).symm
    rw [ag e,ab (by rw [h.len]; exact hj),h.at hj];unfold ln;rw [xQ hne]
  ·rw [aR hj,ag (by omega),aR (by rw [h.len]; exact hj)];rfl
def hc (c:ai) (W h:Nat):ai:=⟨max 0 (min c.Row ((h:Int) - 1)),max 0 (min c.Col ((W:Int) - 1)),c.Pending && (c.Col==(W:Int) - 1)⟩
theorem rU {n:Nat} (h1:1≤n) (h2:n≤1024):fJ n=some (n:Int):=by
 unfold fJ;rw [fw,dF]
 congr 1
 omega
theorem uF {n:Nat} (h1:1≤n) (h2:n≤1024):ci n=some (n:Int):=by
 unfold ci;rw [ag (by simp; omega),ag (by simp; omega)]
theorem oe (c:ai) {W h:Nat} (w1:1≤W) (w2:W≤1024) (h1:1≤h) (h2:h≤1024):eo c W h=some (hc c W h):=by
 unfold eo kb;rw [rU w1 w2,rU h1 h2];simp only [bsm,aV];rw [aN (by omega),aN (by omega),fw,dF,fw,dF];rfl
theorem uD (n:Int) {m:Nat} (h1:1≤m) (h2:m≤1024):fA n m=some (max 0 (min n ((m:Int) - 1))):=by
 unfold fA;rw [aN (by omega)];by_cases a:n < 0
 ·rw [af (by simpa using a)]
  congr 1
  omega
 ·rw [ag (by simpa using a)];by_cases b:(m:Int)≤n
  ·rw [af (by simpa using b)]
   congr 1
   omega
  ·rw [ag (by simpa using b)]
   congr 1
   omega
theorem yf (c:ai) {W h:Nat} (w1:1≤W) (w2:W≤1024) (h1:1≤h) (h2:h≤1024):gH c W h=some (hc c W h):=by
 unfold gH;rw [uF h1 h2,uF w1 w2];simp only [bsm,aV];rw [uD _ h1 h2,uD _ w1 w2,aN (by omega)];rfl
structure Hd (c:ai) (W h:Nat):Prop where
 rr:0≤c.Row∧c.Row < (h:Int)
 cc:0≤c.Col∧c.Col < (W:Int)
 pp:c.Pending=true→c.Col=(W:Int) - 1
theorem rN (c:ai) {W h:Nat} (w1:1≤W) (h1:1≤h):Hd (hc c W h) W h:=by
 refine ⟨by simp only [hc]; omega,by simp only [hc]; omega,fun hp=>?_⟩;simp only [hc,aw,aX] at hp⊢;omega
theorem GS {c:ai} {W h:Nat} (hd:Hd c W h):hc c W h=c:=by
 obtain ⟨h1,h2,h3⟩:=hd;obtain ⟨a,b,d⟩:=c;simp only at h1 h2 h3;unfold hc;simp only [ai.mk.injEq];refine ⟨by omega,by omega,?_⟩
 cases d with
 | false=>rfl
 | true=>rw [h3 rfl]; simp
theorem wu (h:Pv C s k g W q ks):fi s (some k)=some (s.sp k ⟨some g,hc q.At W ks.length,q.Auto⟩,true):=by
 unfold fi;simp only [bG,fM,bsm,h.p,ak,aY];rw [ii h.g,dZ h.g];simp only [bsm];rw [oe _ h.g.w1 h.g.w2 h.g.h1 h.g.h2];simp only [bsm];rw [gF (cD h.p)];rfl
theorem rF (h:Pv C s k g W q ks):dN q=some (W:Int):=by
 have hl:=h.len;have h1:=h.g.h1;have h0:idx q.L (0:Int)=some (q.L[0]'(by omega)):=bp (i:=0) (by omega);unfold dN;rw [h0];simp only [bsm];rw [(h.ok _ (aJ _)).2]
theorem nN (h:Pv C s k g W q ks):cA q=some ⟨q.L,hc q.At W ks.length,q.Auto⟩:=by
 unfold cA;rw [rF h];simp only [bsm];rw [h.len,yf _ h.g.w1 h.g.w2 h.g.h1 h.g.h2];rfl
theorem uG (h:Pv C s k g W q ks):∃s' q' ks',eE s (some k)=some s'∧eh q=some q'∧Pv C s' k g W q' ks'∧ks'.length=ks.length∧
  Hd q'.At W ks.length∧q'.At.Pending=false∧q'.At.Col=(hc q.At W ks.length).Col∧q'.Auto=q.Auto:=by
 have h1:=h.set (hc q.At W ks.length) q.Auto;have hd:=rN q.At h.g.w1 h.g.h1;have hh:=h.g.h2;unfold eE eh;rw [wu h,nN h];generalize hc q.At W ks.length=c at *;simp only [bsm,cW,ak,aY];rw [h1.p];simp only [bsm];rw [dZ h1.g];simp only [bsm];unfold lQ;rw [rU h.g.h1 h.g.h2];simp only [bsm];rw [aN (by omega),aN (by have:=hd.rr; omega),h.len];have hr:=hd.rr;by_cases he:(ks.length:Int) - 1≤c.Row
 ·rw [af (by simpa using he),ag (by simp; omega)];have h2:=h1.set ⟨c.Row,c.Col,false⟩ q.Auto;rw [wh] at h2;simp only [bsm];rw [gF (by rw [show (s.sp k ⟨some g,c,q.Auto⟩).place_Pen.length=s.place_Pen.length by simp [Sto.sp]]; exact cD h.p),wh];simp only [bsm,bF];rw [dZ h2.g];simp only [bsm];obtain ⟨s',ks',u1,⟨u2,u3,u4,u5⟩,u6,u7⟩:=zv h2.g h2.nd 0 (ks.length:Int) 1;have hm:=pq (W:=W) (L:=q.L) (by rw [h.len]; exact hh) h.g.w2 (fun x hx=>(h.ok x hx).2) 0 (ks.length:Int) 1 true;rw [h.len] at hm;rw [u1,hm];refine ⟨s',_,ks',rfl,rfl,⟨?_,u2,u3,?_,(qe u6).trans h2.o,h2.f.step u7 (jM u6)⟩,u4,⟨hr,hd.cc,fun e=>by cases e⟩,rfl,rfl,rfl⟩
  ·rw [jM u6]; exact h2.p
  ·rw [u5,h2.l]
 ·rw [ag (by simpa using he),af (by simp; omega)];have h2:=h1.set ⟨c.Row+1,c.Col,false⟩ q.Auto;rw [wh] at h2;simp only [bsm];rw [gF (by rw [show (s.sp k ⟨some g,c,q.Auto⟩).place_Pen.length=s.place_Pen.length by simp [Sto.sp]]; exact cD h.p),wh];simp only [bsm,ak,aY];exact ⟨_,_,ks,rfl,rfl,h2,rfl,⟨by simp only; omega,hd.cc,fun e=>by cases e⟩,rfl,rfl,rfl⟩
theorem rE (h:Pv C s k g W q ks) {i:Nat} (hi:i < ks.length) (x:ah):cz q i x=some ⟨q.L.set i x,q.At,q.Auto⟩:=by
 have hl:=h.len;have hh:=h.g.h2;unfold cz;rw [cY (by simp; omega),bS];simp only [bsm];rw [bp (show i < q.L.length by omega),ib (show i < q.L.length by omega)];rfl
theorem AH (h:Pv C s k g W q ks) (hd:0≤q.At.Row∧q.At.Row < (ks.length:Int)):∃s' q' ks',eM s (some k)=some s'∧cV q=some q'∧Pv C s' k g W q' ks'∧ks'.length=ks.length∧
  Hd q'.At W ks.length∧q'.At.Pending=false∧q'.At.Col=0∧q'.Auto=q.Auto:=by
 obtain ⟨i,hi⟩:∃i:Nat,q.At.Row=(i:Int):=⟨q.At.Row.toNat,by omega⟩;have hik:i < ks.length:=by omega
 have hl:=h.len;obtain ⟨r,r1,r2,r3⟩:=h.g.at hik;have hrow:=h.row hik (r:=⟨r.cells,true⟩) r2 r3;have h2:=hrow.set ⟨q.At.Row,0,false⟩ q.Auto;have w1:=h.g.w1;unfold eM cV;simp only [bsm,h.p,hi];rw [eu h.g hik];simp only [bsm];rw [uB (l:=r.cells) (w:=r.wrap) r1];simp only [bsm];rw [hrow.p];simp only [bsm,dj];rw [gF (cD hrow.p)];simp only [bsm];rw [bp (show i < q.L.length by omega),h.at hik,mG r1];simp only [bsm];rw [rE h hik];simp only [bsm,hi];obtain ⟨s',q',ks',n1,n2,n3,n4,n5,n6,n7,n8⟩:=uG h2;rw [hi] at n1 n2;rw [n1,n2];refine ⟨s',q',ks',rfl,rfl,n3,n4,n5,n6,?_,n8⟩;rw [n7];simp only [hc];omega
theorem yi (h:Pv C s k g W q ks) {i a:Nat} (hi:i < ks.length) (hp:Snd p) (hn:1≤p.length) (ha:a+p.length≤W):∃s' q',dA s (some ks[i]) a p=some (s',Er.nil)∧cq q i a p=some q'∧
  Pv C s' k g W q' ks∧q'.At=q.At∧q'.Auto=q.Auto∧q'.L=q.L.set i ⟨pl (ln s ks[i]).Cells a p,pw (ln s ks[i]).Cells (ln s ks[i]).Wrap a p.length⟩:=by
 obtain ⟨r,r1,r2,r3⟩:=h.g.at hi;have w2:=h.g.w2;have hl:=h.len;have hrow:=h.row hi (r:=⟨pl r.cells a p,pw r.cells r.wrap a p.length⟩) (r2.paint hp (by rw [r3]; exact ha)) (by rw [iG]; exact r3);refine ⟨_,_,nL (l:=r.cells) (w:=r.wrap) r1 r2 (by omega) hp hn (by omega),?_,hrow,rfl,rfl,by rw [mG r1]⟩;unfold cq;rw [bp (show i < q.L.length by omega),h.at hi,mG r1];simp only [bsm];rw [sJ _ _ _ _ (by omega) (by omega) (by omega)];simp only [bsm];rw [rE h hi];rfl
end Go.Proofs.YtidapncdmjppeaaGreatDoor
namespace Go.Proofs.YtidapncdmjppeaaGreatDoor
open Go Go.Lt
def ca (c:ai) (d W:Nat) (au:Bool):ai:=if c.Col < (W:Int) - d then ⟨c.Row,c.Col+d,false⟩ else ⟨c.Row,(W:Int) - 1,au⟩
theorem BF (c:ai) {d W:Nat} (hd:d=1∨d=2) (w1:1≤W) (w2:W≤1024) (hc:0≤c.Col∧c.Col < (W:Int)) (au:Bool):jB c d W au=some (ca c d W au):=by
 unfold jB ca;rw [rU w1 w2];simp only [bsm,fw,dF];rw [show max (1:Int) (min (d:Int) 2)=(d:Int) by omega,aN (by omega),aN (by omega),aN (by omega)];by_cases h:c.Col < (W:Int) - d
 ·rw [af (by simpa using h),af h]
 ·rw [ag (by simpa using h),ag h]
theorem wt (c:ai) {d W:Nat} (hd:d=1∨d=2) (w1:1≤W) (w2:W≤1024) (hc:0≤c.Col∧c.Col < (W:Int)) (au:Bool):jk c d W au=some (ca c d W au):=by
 unfold jk ca;have hz:(if decide ((d:Int) > 1)=true then (some 2:Option Int) else some 1)=some (d:Int):=by
  rcases hd with rfl | rfl <;> rfl
 rw [hz];simp only [bsm];rw [uF w1 w2];simp only [bsm];rw [aN (by omega),aN (by omega),aN (by omega)];by_cases h:c.Col < (W:Int) - d
 ·rw [ag (by simp; omega),af h]
 ·rw [af (by simp; omega),ag h]
variable {s C:Sto} {g k W:Nat} {ks:List Nat} {q:ae}
theorem G7 {c:ai} {d h:Nat} (hd:d=1∨d=2) (w1:1≤W) (hc:0≤c.Col∧c.Col < (W:Int)) (hr:0≤c.Row∧c.Row < (h:Int)) (au:Bool):Hd (ca c d W au) W h:=by
 unfold ca;by_cases h:c.Col < (W:Int) - d
 ·rw [af h];exact ⟨hr,by simp only; omega,fun e=>by cases e⟩
 ·rw [ag h];exact ⟨hr,by simp only; omega,fun _=>rfl⟩
theorem nc (d:Nat) (hd:d=1∨d=2) (t:List Int):(di (d:Int) t).length=d:=by
 unfold di;rcases hd with rfl | rfl <;> (repeat' split) <;> first | rfl | (exfalso; omega)
def fld (q:ae):(List ah)×Int×Int×Bool×Bool:=(q.L,q.At.Row,q.At.Col,q.At.Pending,q.Auto)
def rp1 (q:ae):Option ((List ah)×Int×Int×Bool×Bool):=
 if q.At.Pending=true then
 (cV q).bind fun x_34=>
 (some (x_34.L,x_34.At.Row,x_34.At.Col,x_34.At.Pending,x_34.Auto):Option ((List ah)×Int×Int×Bool×Bool))
 else
 (some (q.L,q.At.Row,q.At.Col,q.At.Pending,q.Auto):Option ((List ah)×Int×Int×Bool×Bool))
def rp2 (d W:Int) (z_28:(List ah)×Int×Int×Bool×Bool):Option ((List ah)×Int×Int×Bool×Bool):=
 (bL (d==2) (some (z_28.2.2.1==(w64 (W - 1))))).bind fun d_40=>
 if d_40=true then
 if z_28.2.2.2.2=true then
 (rep 1 (⟨0,([]:List Int)⟩:aa)).bind fun x_58=>
 (cq (⟨z_28.1,(⟨z_28.2.1,z_28.2.2.1,z_28.2.2.2.1⟩:ai),z_28.2.2.2.2⟩:ae) z_28.2.1 (w64 (W - 1)) x_58).bind fun x_59=>
 (cV x_59).bind fun x_60=>
 (some (x_60.L,x_60.At.Row,x_60.At.Col,x_60.At.Pending,x_60.Auto):Option ((List ah)×Int×Int×Bool×Bool))
 else
 (some (z_28.1,z_28.2.1,(w64 (W - 2)),z_28.2.2.2.1,z_28.2.2.2.2):Option ((List ah)×Int×Int×Bool×Bool))
 else
 (some (z_28.1,z_28.2.1,z_28.2.2.1,z_28.2.2.2.1,z_28.2.2.2.2):Option ((List ah)×Int×Int×Bool×Bool))
def cp1 (s:Sto) (p0:Option Nat):Option Sto:=
 (p0).bind fun k_3=>
 (s.place_Pen[k_3]?).bind fun o_6=>
 if o_6.At.Pending=true then
 (eM s p0).bind fun x_9=>
 (some (x_9):Option (Sto))
 else
 (some (s):Option (Sto))
theorem E0 (h:Pv C s k g W q ks) (hd:Hd q.At W ks.length):∃s' q' ks',cp1 s (some k)=some s'∧rp1 q=some (fld q')∧Pv C s' k g W q' ks'∧ks'.length=ks.length∧Hd q'.At W ks.length∧q'.Auto=q.Auto∧q'.At.Pending=false:=by
 unfold cp1 rp1;simp only [bsm,h.p]
 cases hp:q.At.Pending with
 | false=>
  simp only [ak,aY];exact ⟨s,q,ks,rfl,by unfold fld; rw [hp],h,rfl,hd,rfl,hp⟩
 | true=>
  simp only [bF];obtain ⟨s',q',ks',a1,a2,a3,a4,a5,a6,a7,a8⟩:=AH h hd.rr;rw [a1,a2];exact ⟨s',q',ks',rfl,rfl,a3,a4,a5,a8,a6⟩
theorem Au (h:Pv C s k g W q ks) (hd:Hd q.At W ks.length) {d:Nat} (hdd:d=1∨d=2) (hdw:d≤W):
  ∃s' q' ks' z,iz s (some k) d=some s'∧rp1 q=some z∧rp2 d W z=some (fld q')∧Pv C s' k g W q' ks'∧ks'.length=ks.length∧(0≤q'.At.Row∧q'.At.Row < (ks.length:Int))∧(0≤q'.At.Col∧q'.At.Col+d≤(W:Int))∧q'.Auto=q.Auto:=by
 obtain ⟨s1,q1,ks1,a1,a2,v1,n1,hd1,au1,pe1⟩:=E0 h hd;have w1:=h.g.w1;have w2:=h.g.w2;have hcc:=hd1.cc;unfold iz
 change ∃s' q' ks' z,((cp1 s (some k)).bind _)=some s'∧_
 rw [a1];simp only [bsm,v1.p];rw [ii v1.g];simp only [bsm,bQ];have e1:w64 ((W:Int) - 1)=((W - 1:Nat):Int):=by rw [aN (by omega)]; omega
 have e2:w64 ((W:Int) - 2)=(W:Int) - 2:=aN (by omega);rw [e1];unfold rp2;by_cases hA:d=1∨q1.At.Col < (W:Int) - 1
 ·rw [af (by simp only [aF,aX,an]; omega)];refine ⟨s1,q1,ks1,_,rfl,a2,?_,v1,n1,hd1.rr,by omega,au1⟩;simp only [fld,aV,bsm,e1];rw [ag (by simp only [aw,aX]; omega)]
 ·rw [ag (by simp only [aF,aX,an]; omega)];have hd2:d=2:=by omega
  have hcol:q1.At.Col=(W:Int) - 1:=by omega
  obtain ⟨i,hi⟩:∃i:Nat,q1.At.Row=(i:Int):=⟨q1.At.Row.toNat,by have:=hd1.rr; omega⟩;have hik:i < ks1.length:=by have:=hd1.rr; omega
  cases hau:q1.Auto with
  | true=>
   simp only [bF];rw [hi,eu v1.g hik];simp only [bsm];rw [show dB 1=some [bl] from rd 1];simp only [bsm];obtain ⟨s2,q2,b1,b2,v2,at2,au2,_⟩:=yi (p:=[bl]) (a:=W - 1) v1 hik (pi 1) (by decide) (by simp; omega);rw [b1];simp only [bsm];obtain ⟨s3,q3,ks3,c1,c2,v3,n3,hd3,pe3,co3,au3⟩:=AH v2 (by rw [at2,n1]; exact hd1.rr);rw [c1];refine ⟨s3,q3,ks3,_,rfl,a2,?_,v3,n3.trans n1,by rw [←n1]; exact hd3.rr,by rw [co3]; omega,by rw [au3,au2,au1]⟩;simp only [fld,aV,bsm,e1];rw [af (by simp only [aw,aX]; omega)];simp only [hau,bF];rw [ox _ (by decide),hi];simp only [bsm];rw [show (List.replicate (1:Int).toNat (⟨0,[]⟩:aa))= [bl] from rfl];have b2':cq ⟨q1.L,⟨(i:Int),q1.At.Col,q1.At.Pending⟩,true⟩ i ((W - 1:Nat):Int) [bl]=some q2:=by rw [←hi,←hau]; rw [←hi] at b2; exact b2
   rw [b2'];simp only [bsm];rw [c2];rfl
  | false=>
   simp only [ak,aY];rw [gF (cD v1.p)];simp only [bsm];have e3:w64 (q1.At.Col - 1)=(W:Int) - 2:=by rw [aN (by omega)]; omega
   have v2:=v1.set ⟨q1.At.Row,(W:Int) - 2,q1.At.Pending⟩ q1.Auto;rw [hau] at v2;rw [e3];refine ⟨_,_,ks1,_,rfl,a2,?_,v2,n1,hd1.rr,by simp only; omega,by simp only; rw [←hau]; exact au1⟩;simp only [fld,aV,bsm,e1,e2];rw [af (by simp only [aw,aX]; omega)];simp only [hau,ak,aY]
def cl2 (p1:Int) (t:List Int) (W:Nat):Nat×List Int:=if max 1 (min p1 2) > (W:Int) then (1,[65533]) else ((max 1 (min p1 2)).toNat,t)
theorem Dl (p1:Int) (t:List Int) (w1:1≤W):((cl2 p1 t W).1=1∨(cl2 p1 t W).1=2)∧(cl2 p1 t W).1≤W:=by
 unfold cl2;split
 ·exact ⟨.inl rfl,w1⟩
 ·simp only;omega
theorem Dk (p1:Int) (t:List Int):(if (decide ((aW 1 (aO p1 2)) > (W:Int)))=true then (some (1,([65533]:List Int)):Option (Int×(List Int))) else (some ((aW 1 (aO p1 2)),t):Option (Int×(List Int))))=some (((cl2 p1 t W).1:Int),(cl2 p1 t W).2):=by
 rw [dF,fw];unfold cl2;by_cases h:max 1 (min p1 2) > (W:Int)
 ·rw [af (by simpa using h),af h];rfl
 ·rw [ag (by simpa using h),ag h];simp only;rw [oS (by omega)]
theorem zG (h:Pv C s k g W q ks) (p1:Int) (t:List Int) (ht:t.length≤1000000):∃(s':Sto) (q':ae) (ks':List Nat) (i a:Nat),i < ks.length∧gA s (some k) p1 t=some (s',⟨(i:Int),(a:Int),false⟩)∧bb q p1 t=some (q',⟨(i:Int),(a:Int),false⟩)∧
  Pv C s' k g W q' ks'∧ks'.length=ks.length∧Hd q'.At W ks.length∧q'.Auto=q.Auto∧a+(cl2 p1 t W).1≤W∧
  ∃l0 w0,l0.length=W∧q'.L[i]? = some ⟨pl l0 a (di (cl2 p1 t W).1 (fx (cl2 p1 t W).2)),w0⟩:=by
 have hl:(cl2 p1 t W).2.length≤1000000:=by unfold cl2; split <;> simp; exact ht
 obtain ⟨hdd,hdw⟩:=Dl p1 t h.g.w1;have hce:=Dk (W:=W) p1 t;have w1:=h.g.w1;have w2:=h.g.w2;have h1:=h.set (hc q.At W ks.length) q.Auto;have hd:=rN q.At h.g.w1 h.g.h1;unfold gA bb;rw [wu h,nN h];generalize hc q.At W ks.length=c at *;simp only [bsm,cW,ak,aY,h1.p];rw [ii h1.g,rF h1];simp only [bsm];rw [hce];generalize (cl2 p1 t W).2=t2 at *;generalize (cl2 p1 t W).1=d at *;simp only [bsm];obtain ⟨s2,q2,ks2,z,a1,a2,a3,v2,n2,hr,hcl,au⟩:=Au h1 hd hdd hdw;rw [a1];obtain ⟨i,hi⟩:∃i:Nat,q2.At.Row=(i:Int):=⟨q2.At.Row.toNat,by omega⟩;obtain ⟨a,ha⟩:∃a:Nat,q2.At.Col=(a:Int):=⟨q2.At.Col.toNat,by omega⟩;have hik:i < ks2.length:=by omega
 obtain ⟨L2,⟨row2,col2,pd2⟩,ua2⟩:=q2;simp only at hi ha hr hcl au;subst hi ha;simp only [bsm,v2.p];rw [eu v2.g hik];simp only [bsm];unfold ku;rw [xn _ _ (by omega)];simp only [bsm];have hsl:=nc d hdd (fx t2);obtain ⟨s3,q3,b1,b2,v3,at3,au3,l3⟩:=yi (p:=di d (fx t2)) (a:=a) v2 hik (wO _ _) (by rw [hsl]; omega) (by rw [hsl]; omega);rw [b1];simp only [bsm,v3.p];rw [ii v3.g];simp only [bsm];have hc2:0≤(⟨(i:Int),(a:Int),false⟩:ai).Col∧(⟨(i:Int),(a:Int),false⟩:ai).Col < (W:Int):=by simp only; omega
 rw [BF _ hdd w1 w2 hc2];simp only [bsm];rw [gF (cD v3.p)];simp only [bsm];have v4:=v3.set (ca ⟨(i:Int),(a:Int),false⟩ d W q3.Auto) q3.Auto
 change ∃s' q' ks' i_1 a_1,_∧_∧((rp1 ⟨q.L,c,q.Auto⟩).bind fun z_28=>(rp2 d W z_28).bind _)=_∧_
 rw [a2];simp only [bsm];rw [a3];simp only [fld,bsm];rw [Ct _ _ (by omega)];simp only [bsm];rw [b2];simp only [bsm];rw [wt _ hdd w1 w2 hc2];simp only [bsm];refine ⟨_,_,ks2,i,a,by omega,rfl,rfl,v4,n2,G7 hdd w1 hc2 (by simp only; omega) _,by simp only; rw [au3,au],by omega,(ln s2 ks2[i]).Cells,pw (ln s2 ks2[i]).Cells (ln s2 ks2[i]).Wrap a (di d (fx t2)).length,?_,?_⟩
 ·have:=v2.ok _ (aJ (show i < L2.length by have:=v2.len; simp only at this; omega));rw [v2.at hik] at this;exact this.2
 ·simp only;rw [l3,bf (by have:=v2.len; simp only at this⊢; omega)]
end Go.Proofs.YtidapncdmjppeaaGreatDoor
namespace Go.Proofs.YtidapncdmjppeaaGreatDoor
open Go Go.Lt
variable {s:Sto} {k g W:Nat} {l p p':List aa} {w:Bool} {q:ae} {ks:List Nat}
theorem rp (l:List aa) (a n j:Nat):tch l a n j=true↔(a≤j∧j < a+n)∨(kd l j=2∧a≤j+1∧j+1 < a+n)∨(kd l j=3∧a+1≤j∧j < a+n+1):=by
 simp only [tch,aF,aw,an];omega
theorem wY {c j:Nat} (h:¬(c≤j∧j < c+p.length)):pc l c p j=if (kd l j=2∧j+1=c∧0 < p.length)∨(kd l j=3∧j=c+p.length∧0 < p.length) then bl else l.getD j bl:=by
 rw [FE h];by_cases ht:tch l c p.length j=true
 ·rw [af ht,af];rw [rp] at ht;omega
 ·rw [ag ht,ag];rw [rp] at ht;omega
theorem CV {c j:Nat} (hj:j < l.length) (h:¬(c≤j∧j < c+p.length)):kd (pl l c p) j=if (kd l j=2∧j+1=c∧0 < p.length)∨(kd l j=3∧j=c+p.length∧0 < p.length) then 0 else kd l j:=by
 rw [CU hj,wY h];split
 ·rfl
 ·exact mz l j
theorem wX {a c:Nat} (h1:a≤c) (h2:c+p.length≤a+p'.length) (h3:a+p'.length≤l.length):pl (pl l c p) a p'=pl l a p':=by
 apply bZ;intro j;rcases aL j l.length with hj | hj
 ·rw [sK (by rw [iG]; exact hj),sK hj]
  congr 1
  by_cases hi:a≤j∧j < a+p'.length
  ·rw [Cz hi,Cz hi]
  ·have hc:¬(c≤j∧j < c+p.length):=by omega
   have hg:(pl l c p).getD j bl=pc l c p j:=by rw [av,sK hj]; rfl
   rw [wY hi,wY hi,CV hj hc,hg,wY hc];by_cases hA:(kd l j=2∧j+1=c∧0 < p.length)∨(kd l j=3∧j=c+p.length∧0 < p.length)
   ·rw [af hA,af hA,ag (by omega),af (by omega)]
   ·rw [ag hA,ag hA]
 ·rw [aR (by rw [iG,iG]; exact hj),aR (by rw [iG]; exact hj)]
theorem Ax {a c:Nat} (h1:a≤c) (h2:c+p.length≤a+p'.length) (h3:a+p'.length≤l.length):pw (pl l c p) (pw l w c p.length) a p'.length=pw l w a p'.length:=by
 unfold pw;rw [iG];by_cases hl:0 < l.length
 ·have e:(tch l c p.length (l.length - 1) || tch (pl l c p) a p'.length (l.length - 1))=tch l a p'.length (l.length - 1):=by
   rw [cG,aF,rp,rp,rp];by_cases hc:c≤l.length - 1∧l.length - 1 < c+p.length
   ·omega
   ·rw [CV (by omega) hc];split <;> omega
  rw [show decide (0 < l.length)=true by simpa using hl,fQ,fQ,Bool.and_assoc,←Bool.not_or,e,fQ]
 ·rw [show decide (0 < l.length)=false by simpa using hl];simp
end Go.Proofs.YtidapncdmjppeaaGreatDoor
namespace Go.Proofs.YtidapncdmjppeaaGreatDoor
open Go Go.Lt
variable {s C:Sto} {k g W:Nat} {l p p':List aa} {w:Bool} {q:ae} {ks:List Nat}
def rdy (q:ae) (W H d:Nat):Option ((List ah)×Int×Int×Bool×Bool):=(rp1 ⟨q.L,hc q.At W H,q.Auto⟩).bind (rp2 d W)
def Bj (L:List ah) (i a d W:Nat) (au:Bool) (t:List Int):ae:=
 ⟨L.set i ⟨pl (L.getD i dl).Cells a (di d (fx t)),pw (L.getD i dl).Cells (L.getD i dl).Wrap a d⟩,ca ⟨(i:Int),(a:Int),false⟩ d W au,au⟩
theorem rG {L:List ah} {c:ai} {au:Bool} {i a:Nat} (hi:i < L.length) (hL:L.length≤1024) (hw:(L.getD i dl).Cells.length≤1024) (hp:p.length≤1000000) (ha:a≤1000000):
  cq ⟨L,c,au⟩ i a p=some ⟨L.set i ⟨pl (L.getD i dl).Cells a p,pw (L.getD i dl).Cells (L.getD i dl).Wrap a p.length⟩,c,au⟩:=by
 unfold cq cz;simp only [gdl hi] at hw⊢;simp only [bp hi,bsm];rw [sJ _ _ _ _ (by omega) ha hp];simp only [bsm];rw [cY (by simp; omega),bS];simp only [bsm];rw [bp hi,ib hi];rfl
theorem js {L2:List ah} {i a d:Nat} {pd au:Bool} (hdd:d=1∨d=2) (h:Pv C s k g W q ks) (hr:rdy q W ks.length d=some (L2,(i:Int),(a:Int),pd,au)) (hi:i < ks.length) (ha:a+d≤W) (hL:L2.length=ks.length) (hok:∀x∈L2,Okl W x) (p1:Int) (t:List Int) (ht:t.length≤1000000)
  (hcl:(cl2 p1 t W).1=d):bb q p1 t=some (Bj L2 i a d W au (cl2 p1 t W).2,⟨(i:Int),(a:Int),false⟩):=by
 have hl:(cl2 p1 t W).2.length≤1000000:=by unfold cl2; split <;> simp; exact ht
 have hce:=Dk (W:=W) p1 t;have w1:=h.g.w1;have w2:=h.g.w2;have h1:=h.set (hc q.At W ks.length) q.Auto;have h2:=h.g.h2;unfold bb;rw [nN h];unfold rdy at hr;generalize hc q.At W ks.length=c at *;simp only [bsm];rw [rF h1];simp only [bsm];rw [hce,hcl];generalize (cl2 p1 t W).2=t2 at *;simp only [bsm];have hsl:=nc d hdd (fx t2);have hc2:0≤(⟨(i:Int),(a:Int),false⟩:ai).Col∧(⟨(i:Int),(a:Int),false⟩:ai).Col < (W:Int):=by simp only; omega
 obtain ⟨z,hz1,hz2⟩:=bs hr
 change ((rp1 ⟨q.L,c,q.Auto⟩).bind fun z_28=>(rp2 d W z_28).bind _)=_
 rw [hz1];simp only [bsm];rw [hz2];simp only [bsm];rw [Ct _ _ (by omega)];simp only [bsm];have hlt:i < L2.length:=by omega
 have hcells:(L2.getD i dl).Cells.length=W:=by
  rw [gdl hlt];exact (hok _ (aJ hlt)).2
 rw [rG hlt (by omega) (by omega) (by omega) (by omega)];simp only [bsm];rw [wt _ hdd w1 w2 hc2];simp only [bsm,Bj,hsl]
theorem Cw (h:Pv C s k g W q ks) {d:Nat} (hdd:d=1∨d=2) (hdw:d≤W):∃L2 i a pd,rdy q W ks.length d=some (L2,((i:Nat):Int),((a:Nat):Int),pd,q.Auto)∧i < ks.length∧a+d≤W∧L2.length=ks.length∧(∀x∈L2,Okl W x):=by
 have h1:=h.set (hc q.At W ks.length) q.Auto;have hd:=rN q.At h.g.w1 h.g.h1;obtain ⟨s2,q2,ks2,z,_,a2,a3,v2,n2,hr,hcl,au⟩:=Au h1 hd hdd hdw;obtain ⟨i,hi⟩:∃i:Nat,q2.At.Row=(i:Int):=⟨q2.At.Row.toNat,by omega⟩;obtain ⟨a,ha⟩:∃a:Nat,q2.At.Col=(a:Int):=⟨q2.At.Col.toNat,by omega⟩;refine ⟨q2.L,i,a,q2.At.Pending,?_,by omega,by omega,by rw [v2.len,n2],v2.ok⟩;unfold rdy;rw [a2];simp only [bsm];rw [a3];simp only [fld,hi,ha,au]
theorem D3 (h:Pv C s k g W q ks):∃L1 i c,rp1 ⟨q.L,hc q.At W ks.length,q.Auto⟩=some (L1,((i:Nat):Int),((c:Nat):Int),false,q.Auto)∧i < ks.length∧c+1≤W∧L1.length=ks.length∧(∀x∈L1,Okl W x):=by
 have h1:=h.set (hc q.At W ks.length) q.Auto;have hd:=rN q.At h.g.w1 h.g.h1;obtain ⟨s2,q2,ks2,a1,a2,v2,n2,hd2,au,pe⟩:=E0 h1 hd;have hr:=hd2.rr;have hcc:=hd2.cc;obtain ⟨i,hi⟩:∃i:Nat,q2.At.Row=(i:Int):=⟨q2.At.Row.toNat,by omega⟩;obtain ⟨a,ha⟩:∃a:Nat,q2.At.Col=(a:Int):=⟨q2.At.Col.toNat,by omega⟩;refine ⟨q2.L,i,a,?_,by omega,by omega,by rw [v2.len,n2],v2.ok⟩;rw [a2];simp only [fld,hi,ha,au,pe]
theorem As (W:Int) (z:(List ah)×Int×Int×Bool×Bool):rp2 1 W z=some z:=by
 unfold rp2;simp only [aV,bsm];rw [ag (by simp)]
theorem Bk (h:Pv C s k g W q ks) {p1 p2:Int} {t1 t2:List Int} (ht1:t1.length≤1000000) (ht2:t2.length≤1000000) (hc1:(cl2 p1 t1 W).1=1) {q':ae} {at_:ai} (hp:bb q p1 t1=some (q',at_))
  {s' C':Sto} {ks':List Nat} (h':Pv C' s' k g W q' ks') (hk:ks'.length=ks.length):bb ⟨q'.L,at_,q'.Auto⟩ p2 t2=bb q p2 t2:=by
 obtain ⟨L1,i,c,e1,hi,hcw,hL1,hok1⟩:=D3 h;have w1:=h.g.w1;have w2:=h.g.w2;have hh2:=h.g.h2;have r1:rdy q W ks.length 1=some (L1,(i:Int),(c:Int),false,q.Auto):=by
  unfold rdy;rw [e1];exact As (W:Int) _
 have hq:=js (.inl rfl) h r1 hi hcw hL1 hok1 p1 t1 ht1 hc1;rw [hp] at hq;simp only [aM,jl] at hq;obtain ⟨rfl,rfl⟩:=hq;simp only [Bj];have hlt:i < L1.length:=by omega
 generalize hX:(⟨pl (L1.getD i dl).Cells c (di (1:Nat) (fx (cl2 p1 t1 W).2)),pw (L1.getD i dl).Cells (L1.getD i dl).Wrap c 1⟩:ah)=X;have hst:=nc 1 (.inl rfl) (fx (cl2 p1 t1 W).2);have hcells:(L1.getD i dl).Cells.length=W:=by
  rw [gdl hlt];exact (hok1 _ (aJ hlt)).2
 have hXc:X.Cells.length=W:=by rw [←hX]; simp only [iG]; exact hcells
 have h2:=h'.set ⟨(i:Int),(c:Int),false⟩ q.Auto;simp only [Bj] at h2;rw [hX] at h2;have hcid:hc ⟨(i:Int),(c:Int),false⟩ W ks.length=⟨(i:Int),(c:Int),false⟩:=GS ⟨by simp only; omega,by simp only; omega,fun e=>by cases e⟩;have e2:rp1 ⟨L1.set i X,hc ⟨(i:Int),(c:Int),false⟩ W ks'.length,q.Auto⟩=some (L1.set i X,(i:Int),(c:Int),false,q.Auto):=by
  rw [hk,hcid];unfold rp1;simp only [ak,aY]
 have hg:(L1.set i X).getD i dl=X:=by
  rw [av,bf hlt];rfl
 have hokX:∀x∈L1.set i X,Okl W x:=h2.ok;obtain ⟨hdd,hdw⟩:=Dl p2 t2 w1;have over:∀(a d:Nat),d=1∨d=2→a≤c→c+1≤a+d→a+d≤W→∀p:List aa,p.length=d→(L1.set i X).set i ⟨pl ((L1.set i X).getD i dl).Cells a p,pw ((L1.set i X).getD i dl).Cells ((L1.set i X).getD i dl).Wrap a d⟩=L1.set i ⟨pl (L1.getD i dl).Cells a p,pw (L1.getD i dl).Cells (L1.getD i dl).Wrap a d⟩:=by
  intro a d _ g1 g2 g3 p hpl;rw [hg,List.set_set]
  congr 1
  rw [←hX];simp only;have o1:=wX (l:=(L1.getD i dl).Cells) (p:=di (1:Nat) (fx (cl2 p1 t1 W).2)) (p':=p) g1 (by omega) (by omega);have o2:=Ax (l:=(L1.getD i dl).Cells) (w:=(L1.getD i dl).Wrap) (p:=di (1:Nat) (fx (cl2 p1 t1 W).2)) (p':=p) g1 (by omega) (by omega);rw [hst,hpl] at o2;rw [o1,o2]
 have fin:∀(a d:Nat) (pd pd':Bool),d=1∨d=2→(cl2 p2 t2 W).1=d→a≤c→c+1≤a+d→a+d≤W→rdy q W ks.length d=some (L1,(i:Int),(a:Int),pd,q.Auto)→rdy ⟨L1.set i X,⟨(i:Int),(c:Int),false⟩,q.Auto⟩ W ks'.length d=some (L1.set i X,(i:Int),(a:Int),pd',q.Auto)→
   bb ⟨L1.set i X,⟨(i:Int),(c:Int),false⟩,q.Auto⟩ p2 t2=bb q p2 t2:=by
  intro a d pd pd' g0 g1 g2 g3 g4 b1 b2;rw [js g0 h b1 hi g4 hL1 hok1 p2 t2 ht2 g1,js g0 h2 b2 (by omega) g4 (by rw [cf]; omega) hokX p2 t2 ht2 g1];have:=over a d g0 g2 g3 g4 (di d (fx (cl2 p2 t2 W).2)) (nc d g0 _);unfold Bj;rw [this]
 have f1:∀(L:List ah) (d:Nat),d=2→c+1 < W→rp2 d W (L,(i:Int),(c:Int),false,q.Auto)=some (L,(i:Int),(c:Int),false,q.Auto):=by
  intro L d hd hcn;unfold rp2;simp only [aV,bsm];rw [aN (by omega),ag (by simp only [aw,aX]; omega)]
 rcases hdd with hd1 | hd2
 ·refine fin c 1 false false (.inl rfl) hd1 (ao _) (ao _) hcw r1 ?_;unfold rdy;rw [e2];exact As (W:Int) _
 ·by_cases hcn:c+1 < W
  ·refine fin c 2 false false (.inr rfl) hd2 (ao _) (by omega) (by omega) ?_ ?_
   ·unfold rdy;rw [e1];exact f1 _ 2 rfl hcn
   ·unfold rdy;rw [e2];exact f1 _ 2 rfl hcn
  ·have hcW:(c:Int)=(W:Int) - 1:=by omega
   have ew1:w64 ((W:Int) - 1)=((W - 1:Nat):Int):=by rw [aN (by omega)]; omega
   have ew2:w64 ((W:Int) - 2)=((W - 2:Nat):Int):=by rw [aN (by omega)]; omega
   cases hau:q.Auto with
   | true=>
    have hpa:∀L:List ah,L.length=ks.length→(L.getD i dl).Cells.length=W→rp2 (2:Nat) W (L,(i:Int),(c:Int),false,true)=
      (cV ⟨L.set i ⟨pl (L.getD i dl).Cells (W - 1) [bl],pw (L.getD i dl).Cells (L.getD i dl).Wrap (W - 1) 1⟩,⟨(i:Int),(c:Int),false⟩,true⟩).bind fun x_60=>(some (x_60.L,x_60.At.Row,x_60.At.Col,x_60.At.Pending,x_60.Auto):Option ((List ah)×Int×Int×Bool×Bool)):=by
     intro L hL hLw;unfold rp2;simp only [aV,bsm];rw [af (by simp only [aw,aX]; rw [ew1]; omega)];simp only [bF];rw [ox _ (by decide)];simp only [bsm];rw [show (List.replicate (1:Int).toNat (⟨0,[]⟩:aa))= [bl] from rfl,ew1,rG (by omega) (by omega) (by omega) (by decide) (by omega)];simp only [bsm];rfl
    obtain ⟨L2,i2,a2,pd2,g1,g2,g3,g4,g5⟩:=Cw h (.inr rfl) (by omega:2≤W);have hsame:rdy ⟨L1.set i X,⟨(i:Int),(c:Int),false⟩,true⟩ W ks'.length 2=rdy q W ks.length 2:=by
     rw [hau] at e1 e2;unfold rdy;rw [hau,e1,e2];simp only [bsm];rw [hpa _ (by rw [cf]; omega) (by rw [hg]; exact hXc),hpa _ hL1 hcells];rw [over (W - 1) 1 (.inl rfl) (by omega) (by omega) (by omega) [bl] rfl]
    rw [hau] at h2;rw [js (.inr rfl) h g1 g2 g3 g4 g5 p2 t2 ht2 hd2,js (.inr rfl) h2 (hsame.trans g1) (by omega) g3 (by omega) g5 p2 t2 ht2 hd2]
   | false=>
    have hna:∀L:List ah,rp2 (2:Nat) W (L,(i:Int),(c:Int),false,q.Auto)=some (L,(i:Int),((W - 2:Nat):Int),false,q.Auto):=by
     intro L;unfold rp2;simp only [aV,bsm];rw [af (by simp only [aw,aX]; rw [ew1]; omega)];simp only [hau,ak,aY];rw [ew2]
    have key:=fin (W - 2) 2 false false (.inr rfl) hd2 (by omega) (by omega) (by omega) (by unfold rdy; rw [e1]; exact hna _) (by unfold rdy; rw [e2]; exact hna _);rw [hau] at key;exact key
end Go.Proofs.YtidapncdmjppeaaGreatDoor
namespace Go.Proofs.YtidapncdmjppeaaGreatDoor
open Go Go.Lt
variable {s:Sto} {k g W:Nat} {l p p':List aa} {w:Bool} {q:ae} {ks:List Nat}
theorem ED {x:Int} (h:vld x=true):fp x=x:=by unfold fp; rw [af h]
theorem zN (x:Int):fp (fp x)=fp x:=ED (xM x)
theorem C6 {t:List Int} (ht:t.length≤15) (x:Int):fx (t++ [fp x])=fx (t++ [x]):=by
 unfold fx;rw [aT (by simp; omega),aT (by simp; omega),bA,bA];simp [zN]
theorem B9 {d:Nat} (hd:d=1∨d=2) {t:List Int} (ht:t≠ []):di (d:Int) t=if d=2 then [⟨2,t⟩,⟨3,[]⟩] else [⟨1,t⟩]:=by
 unfold di;rw [ag ht];rcases hd with rfl | rfl <;> rfl
theorem Bp {l0:List aa} {a d:Nat} {t:List Int} (hdd:d=1∨d=2) (h:s.row_Row[k]? = some ⟨pl l0 a (di d t),w⟩) (hs:Snd (pl l0 a (di d t))) (hl:l0.length≤1024) (ha:a+d≤l0.length) (ht1:1≤t.length) (ht2:t.length≤15) (x:Int):
  mN s (some k) a x=some (s.sr k ⟨pl l0 a (di d (fx (t++ [x]))),pw (pl l0 a (di d t)) w a d⟩,true):=by
 have hne:t≠ []:=fun e=>by rw [e] at ht1; simp at ht1
 have hsl:=nc d hdd t;have hc:pc l0 a (di d t) a=⟨(d:Int),t⟩:=by
  rw [Cz ⟨ao _,by rw [hsl]; omega⟩,dd,B9 hdd hne];rcases hdd with rfl | rfl <;> rfl
 have hkd:kd (pl l0 a (di d t)) a=(d:Int):=by rw [CU (by omega),hc]
 have hm:mat (pl l0 a (di d t)) (a:Int)=some a:=by
  unfold mat;rw [af (by rw [iG]; omega),aZ,hkd,ag (by omega),ag (by omega)]
 unfold mN;rw [Ej h hs a (by omega),hm];have hg:(pl l0 a (di d t)).getD a bl=⟨(d:Int),t⟩:=by rw [av,sK (by omega),hc]; rfl
 simp only [bsm,cW,fM,hg,hkd];rw [ag (by simp; omega),cY (by simp; omega)];simp only [bsm];have hsl2:=nc d hdd (fx (t++ [x]));rw [CL h hs (by rw [iG]; exact hl) _ (by simp; omega) (by rw [hsl2,iG]; exact ha),wX (ao a) (by omega) (by omega),hsl2];simp only [bsm,Er.isNil]
def zb (b:Int):Bool:=b==1 || b==2 || b==3 || b==4 || b==5 || b==10 || b==11
def b2 (x:aS):Bool:= !zb x.Break && (x.East==1 || x.East==2)
theorem zZ (b:Int):kV b=some (zb b):=by
 unfold kV zb;by_cases h1:b=1
 ·subst h1; rfl
 by_cases h2:b=2
 ·subst h2; rfl
 by_cases h3:b=3
 ·subst h3; rfl
 by_cases h4:b=4
 ·subst h4; rfl
 by_cases h5:b=5
 ·subst h5; rfl
 by_cases h6:b=10
 ·subst h6; rfl
 by_cases h7:b=11
 ·subst h7; rfl
 simp [h1,h2,h3,h4,h5,h6,h7]
theorem Dz (x:aS):∃n,mQ x=some n∧(n==2)=b2 x:=by
 unfold mQ b2;rw [zZ];simp only [bsm,bQ]
 cases zb x.Break with
 | true=>exact ⟨0,rfl,rfl⟩
 | false=>
  cases h:(x.East==1 || x.East==2) with
  | true=>exact ⟨2,by simp [h],rfl⟩
  | false=>exact ⟨1,by simp [h],rfl⟩
def gz (y:bu) (r:Int) (x:aS):bu:=⟨true,x.Pict,y.wide || (b2 x || (y.some && ((r==65039 && y.pict) || x.Pict || x.Break==6)))⟩
def wz (y:bu):Int:=if y.wide=true then 2 else 1
theorem zM (y:bu) (r:Int) (x:aS):cp y r x=some (gz y r x,wz (gz y r x)):=by
 have hw:ce y r x=some (b2 x || (y.some && ((r==65039 && y.pict) || x.Pict || x.Break==6))):=by
  unfold ce;obtain ⟨n,h1,h2⟩:=Dz x;rw [h1];simp only [bsm,h2,aV,bQ]
  cases b2 x <;> cases y.some <;> rfl
 unfold cp;rw [hw];simp only [bsm,bQ,ak,aY];unfold wz gz;split <;> simp_all
structure Cv (c:bB) (t:List Int):Prop where
 n:c.n=(t.length:Int)
 h:t.length≤16
 t:(a16 c.text).take t.length=t
theorem xm {c:bB} {t:List Int} (h:Cv c t):bO c=some (decide (t.length=16)):=by
 unfold bO cS;simp only [ak,aY,bsm,h.n]
 congr 1
 rw [cG,aX,an];omega
theorem Ge {c:bB} {t:List Int} (h:Cv c t) (h2:t.length < 16) (x:Int):∃c',cj c x=some (c',true)∧Cv c' (t++ [x]):=by
 unfold cj;rw [xm h];simp only [fM,bsm];rw [ag (by simp; omega),h.n,bp (by rw [nq]; exact h2)];simp only [bsm];refine ⟨_,rfl,by simp only; rw [aN (by omega)]; simp,by simp; omega,?_⟩;simp only;rw [zm,aZ,aj];simp only [az,aH];rw [ax (by rw [cf,nq]; exact h2),List.take_set_of_le (ao _),h.t,List.getElem_set_self]
theorem AP {c:bB} {t:List Int} (h:Cv c t):bN c=some t:=by
 unfold bN;simp only [ak,aY,h.n];have:=sx (xs:=a16 c.text) (i:=0) (j:=t.length) (db _) (by rw [nq]; exact h.h);rw [show ((0:Nat):Int)=0 by rfl] at this;rw [this];simp only [bsm,mZ,zo,h.t];unfold dv;rw [cY (by have:=h.h; simp; omega)];rfl
end Go.Proofs.YtidapncdmjppeaaGreatDoor
namespace Go.Proofs.YtidapncdmjppeaaGreatDoor
open Go Go.Lt
variable {s C:Sto} {k g W j:Nat} {w:Bool} {q:ae} {ks:List Nat}
def Sto.sc (s:Sto) (j:Nat) (x:ba):Sto:={ s with widen_Cluster:=s.widen_Cluster.set j x}
theorem sE {x:ba} (h:j < s.widen_Cluster.length):s.set_widen_Cluster j x=some (s.sc j x):=by
 unfold Sto.set_widen_Cluster;rw [af h];rfl
theorem po {x:ba} (h:j < s.widen_Cluster.length):(s.sc j x).widen_Cluster[j]? = some x:=by simp [Sto.sc,h]
theorem wk (s:Sto) (j:Nat) (x y:ba):(s.sc j x).sc j y=s.sc j y:=by simp [Sto.sc]
theorem Gw.sc (h:Gw s g ks W) (j:Nat) (x:ba):Gw (s.sc j x) g ks W:=⟨h.g,h.r,h.h1,h.h2,h.w1,h.w2⟩
theorem Gw.addc (h:Gw s g ks W) (x:ba):Gw (s.add_widen_Cluster x) g ks W:=⟨h.g,h.r,h.h1,h.h2,h.w1,h.w2⟩
theorem Pv.sc (h:Pv s s k g W q ks) (j:Nat) (x:ba):Pv (s.sc j x) (s.sc j x) k g W q ks:=
 ⟨h.p,h.g.sc j x,h.nd,h.l,rfl,h.f.rgp ⟨rfl,rfl,rfl⟩ ⟨rfl,rfl,rfl⟩⟩
theorem Pv.addc (h:Pv s s k g W q ks) (x:ba):Pv (s.add_widen_Cluster x) (s.add_widen_Cluster x) k g W q ks:=
 ⟨h.p,h.g.addc x,h.nd,h.l,rfl,h.f.rgp ⟨rfl,rfl,rfl⟩ ⟨rfl,rfl,rfl⟩⟩
theorem sM {a b:Sto} (h:a.oth=b.oth):a.widen_Cluster=b.widen_Cluster:=by
 have:=kW Sto.widen_Cluster h;exact this
structure Wc (s:Sto) (j:Nat) (c:ai) (y:bu) (t:List Int) (n:Int):Prop where
 x:∃b,s.widen_Cluster[j]? = some ⟨c,n,b,y⟩∧Cv b t
theorem Wc.lt {c:ai} {y:bu} {t:List Int} {n:Int} (h:Wc s j c y t n):j < s.widen_Cluster.length:=by
 obtain ⟨b,h,_⟩:=h.x;exact cD h
theorem DW (r:Int):((ez r).bind fun x_6=>if (!x_6)=true then (some (65533):Option (Int)) else (some (r):Option (Int)))=some (fp r):=by
 rw [sG];unfold fp
 cases vld r <;> rfl
theorem DF {c:ai} {y:bu} {t:List Int} {n:Int} (h:Wc s j c y t n) (ht:t.length < 16) (r:Int) (x:aS):
  ∃b',eC s (some j) r x=some (s.sc j ⟨c,n,b',gz y (fp r) x⟩,wz (gz y (fp r) x))∧Cv b' (t++ [fp r]):=by
 have hj:=h.lt;obtain ⟨b,hb,hv⟩:=h.x;obtain ⟨b',h1,h2⟩:=Ge hv ht (fp r);refine ⟨b',?_,h2⟩;unfold eC;rw [DW];simp only [bsm,hb,h1];rw [sE hj];simp only [bsm,zM];rw [sE (by simp [Sto.sc]; exact hj),wk];rfl
theorem EO (t:List Int) (h:2≤W):cl2 2 t W=(2,t):=by
 unfold cl2;rw [ag (by omega)];rfl
theorem AQ (t:List Int) (h:1≤W):cl2 1 t W=(1,t):=by
 unfold cl2;rw [ag (by omega)];rfl
theorem AU (t:List Int):cl2 2 t 1=(1,[65533]):=by
 unfold cl2;rw [af (by decide)]
structure On (C s:Sto) (k g W H j:Nat) (q0:ae) (y:bu) (t:List Int) (q:ae) (c:ai) (ks:List Nat):Prop where
 v:Pv s s k g W q ks
 f:Fr C s k g ks
 w:Wc s j c y t (wz y)
 n:ks.length=H
 p:bb q0 (wz y) t=some (q,c)
theorem Dy {q0:ae} (h:Pv C s k g W q0 ks) (r:Int) (x:aS):∃s' q' c ks',jX s (some k) r x=some (s',some s.widen_Cluster.length)∧
  On C s' k g W ks.length s.widen_Cluster.length q0 (gz ⟨false,false,false⟩ (fp r) x) [fp r] q' c ks'∧∃z,s'.oth=(s.add_widen_Cluster z).oth:=by
 unfold jX;simp only [bG,fM,bsm,h.p,ak,aY];have h0:Wc (s.add_widen_Cluster ⟨⟨0,0,false⟩,0,⟨(0,0,0,0,0,0,0,0,0,0,0,0,0,0,0,0),0⟩,⟨false,false,false⟩⟩) s.widen_Cluster.length ⟨0,0,false⟩ ⟨false,false,false⟩ [] 0:=
  ⟨⟨⟨(0,0,0,0,0,0,0,0,0,0,0,0,0,0,0,0),0⟩,by simp [Sto.add_widen_Cluster],⟨rfl,by simp,rfl⟩⟩⟩
 obtain ⟨b,h1,h2⟩:=DF h0 (by simp) r x;have hlt:=h0.lt;rw [h1];have hv:=(h.self.addc ⟨⟨0,0,false⟩,0,⟨(0,0,0,0,0,0,0,0,0,0,0,0,0,0,0,0),0⟩,⟨false,false,false⟩⟩).sc s.widen_Cluster.length ⟨⟨0,0,false⟩,0,b,gz ⟨false,false,false⟩ (fp r) x⟩;have hR:Rgp s (s.add_widen_Cluster ⟨⟨0,0,false⟩,0,⟨(0,0,0,0,0,0,0,0,0,0,0,0,0,0,0,0),0⟩,⟨false,false,false⟩⟩):=⟨rfl,rfl,rfl⟩;have hA:∀z,((s.add_widen_Cluster ⟨⟨0,0,false⟩,0,⟨(0,0,0,0,0,0,0,0,0,0,0,0,0,0,0,0),0⟩,⟨false,false,false⟩⟩).sc s.widen_Cluster.length z)=s.add_widen_Cluster z:=fun z=>by
  simp [Sto.sc,Sto.add_widen_Cluster]
 generalize hs1:s.add_widen_Cluster ⟨⟨0,0,false⟩,0,⟨(0,0,0,0,0,0,0,0,0,0,0,0,0,0,0,0),0⟩,⟨false,false,false⟩⟩=s1 at *;simp only [bsm];rw [po hlt];simp only [bsm];rw [sE (by simp [Sto.sc]; exact hlt),wk];simp only [bsm];rw [AP h2];simp only [bsm,bS];have hv2:=hv.sc s.widen_Cluster.length ⟨⟨0,0,false⟩,wz (gz ⟨false,false,false⟩ (fp r) x),b,gz ⟨false,false,false⟩ (fp r) x⟩;simp only [wk] at hv2;obtain ⟨s3,q3,ks3,i,a,p1,p2,p3,p4,p5,p6,p7,_⟩:=zG hv2 (wz (gz ⟨false,false,false⟩ (fp r) x)) [fp r] (by simp);rw [p2];have hcl:s3.widen_Cluster=(s1.sc s.widen_Cluster.length ⟨⟨0,0,false⟩,wz (gz ⟨false,false,false⟩ (fp r) x),b,gz ⟨false,false,false⟩ (fp r) x⟩).widen_Cluster:=sM p4.o;have hg3:s3.widen_Cluster[s.widen_Cluster.length]? = some ⟨⟨0,0,false⟩,wz (gz ⟨false,false,false⟩ (fp r) x),b,gz ⟨false,false,false⟩ (fp r) x⟩:=by
  rw [hcl];exact po hlt
 simp only [bsm];rw [hg3];simp only [bsm];rw [sE (cD hg3)];refine ⟨_,q3,_,ks3,rfl,⟨p4.self.sc _ _,?_,⟨_,po (cD hg3),by simpa using h2⟩,p5,p3⟩,⟨⟨(i:Int),(a:Int),false⟩,wz (gz ⟨false,false,false⟩ (fp r) x),b,gz ⟨false,false,false⟩ (fp r) x⟩,?_⟩
 ·exact (h.f.trans h.oG h.oR (p4.f.rgp (C':=s) ⟨hR.symm.r,hR.symm.g,hR.symm.p⟩ (Rgp.self _))).rgp (Rgp.self _) ⟨rfl,rfl,rfl⟩
 ·rw [←hA];have:=kW (fun y:Sto=>y.sc s.widen_Cluster.length ⟨⟨(i:Int),(a:Int),false⟩,wz (gz ⟨false,false,false⟩ (fp r) x),b,gz ⟨false,false,false⟩ (fp r) x⟩) p4.o;refine this.trans ?_;show (((s1.sc _ _).sc _ _).oth)=_;rw [wk]
theorem xL (y:bu):(y.wide=false∧wz y=1)∨(y.wide=true∧wz y=2):=by
 unfold wz;cases y.wide
 ·exact .inl ⟨rfl,rfl⟩
 ·exact .inr ⟨rfl,rfl⟩
theorem Ez {y:bu} (h:y.wide=true) (r:Int) (x:aS):(gz y r x).wide=true:=by
 unfold gz;simp [h]
theorem EP (p1:Int) (t t':List Int) (W:Nat):(cl2 p1 t W).1=(cl2 p1 t' W).1:=by
 unfold cl2;split <;> rfl
theorem Bt {q0:ae} {y:bu} {t:List Int} {c:ai} {H:Nat} (h:On C s k g W H j q0 y t q c ks) (ht:t.length=16) (r:Int) (x:aS):
  du s (some j) (some k) r x=some (s,false):=by
 obtain ⟨b,hb,hv⟩:=h.w.x;unfold du;simp only [bG,fM,bsm,h.v.p,hb,xm hv,ht];rfl
theorem Ep {C0 s0:Sto} {ks0:List Nat} {q0:ae} {H:Nat} (h0:Pv C0 s0 k g W q0 ks0) (hH:ks0.length=H) {y:bu} {t:List Int} {c:ai} (h:On C s k g W H j q0 y t q c ks) (ht1:1≤t.length) (ht:t.length < 16) (hvt:∀x∈t,vld x=true) (r:Int) (x:aS):
  ∃s' q' c' ks',du s (some j) (some k) r x=some (s',true)∧On C s' k g W H j q0 (gz y (fp r) x) (t++ [fp r]) q' c' ks'∧∃z,s'.oth=(s.sc j z).oth:=by
 have hj:=h.w.lt;obtain ⟨b',e1,e2⟩:=DF h.w ht r x;obtain ⟨b,hb,hv⟩:=h.w.x;have w1:=h0.g.w1;have w2:=h0.g.w2;unfold du;have hfull:decide (t.length=16)=false:=by simp; omega
 simp only [bG,fM,bsm,h.v.p,hb,xm hv,hfull,ak,aY,e1];have htl:(t++ [fp r]).length≤1000000:=by simp; omega
 generalize hy':gz y (fp r) x=y' at *;rw [po hj];simp only [bsm];rw [sE (by simp [Sto.sc]; exact hj),wk];simp only [bsm];have hv2:=h.v.sc j ⟨c,wz y',b',y'⟩;have hfr:Fr C (s.sc j ⟨c,wz y',b',y'⟩) k g ks:=h.f.rgp (Rgp.self _) ⟨rfl,rfl,rfl⟩;by_cases hw:wz y'=wz y
 ·rw [ag (by simp [hw])];simp only [hv2.p,bsm];rw [ii hv2.g];simp only [bsm];obtain ⟨hdd,hdw⟩:=Dl (wz y) t w1;obtain ⟨L2,i,a,pd,r1,r2,r3,r4,r5⟩:=Cw h0 hdd hdw;have hq:=js hdd h0 r1 r2 r3 r4 r5 (wz y) t (by omega) rfl;have hq':=js hdd h0 r1 r2 r3 r4 r5 (wz y) (t++ [fp r]) htl (EP _ _ _ _);rw [h.p] at hq;simp only [aM,jl] at hq;obtain ⟨hq1,rfl⟩:=hq;by_cases hle:wz y'≤(W:Int)
  ·rw [af (by simpa using hle)];have hcl:∀t2:List Int,cl2 (wz y) t2 W=((wz y).toNat,t2):=fun t2=>by
    rw [hw] at hle;rcases xL y with ⟨_,q1⟩ | ⟨_,q1⟩
    ·rw [q1]; exact AQ t2 w1
    ·rw [q1]; exact EO t2 (by omega)
   rw [hcl] at hq1 r3 hdd hdw r1 hq';rw [hcl] at hq';simp only at hq1 r3 hdd hdw r1 hq';generalize (wz y).toNat=d at *;have hik:i < ks.length:=by rw [h.n,←hH]; exact r2
   rw [eu hv2.g hik];simp only [bsm];have hfx:fx t=t:=E8 hvt (by omega);obtain ⟨⟨rc,rw_⟩,hr0,hsn,hlw⟩:=h.v.g.at hik;simp only at hsn hlw;have hlt:i < L2.length:=by rw [r4]; exact r2
   have hat:=h.v.at hik;rw [mG hr0] at hat;have hqL:q.L=L2.set i ⟨pl (L2.getD i dl).Cells a (di d (fx t)),pw (L2.getD i dl).Cells (L2.getD i dl).Wrap a d⟩:=by rw [hq1]; rfl
   have hgi:q.L[i]'(by rw [h.v.len]; exact hik)=⟨pl (L2.getD i dl).Cells a (di d (fx t)),pw (L2.getD i dl).Cells (L2.getD i dl).Wrap a d⟩:=by
    have:q.L[i]? = some ⟨pl (L2.getD i dl).Cells a (di d (fx t)),pw (L2.getD i dl).Cells (L2.getD i dl).Wrap a d⟩:=by rw [hqL,bf hlt]
    rw [ab (by rw [h.v.len]; exact hik)] at this;exact aq this
   rw [hgi] at hat;simp only [ah.mk.injEq] at hat;obtain ⟨hrc,hrw⟩:=hat;subst hrc hrw;have hcells:(L2.getD i dl).Cells.length=W:=by
    rw [gdl hlt];exact (r5 _ (aJ hlt)).2
   have hq1A:q.At=ca ⟨(i:Int),(a:Int),false⟩ d W q0.Auto∧q.Auto=q0.Auto:=by rw [hq1]; exact ⟨rfl,rfl⟩
   generalize hl0:(L2.getD i dl).Cells=l0 at *;generalize hw0:(L2.getD i dl).Wrap=w0 at *;rw [hfx] at hr0 hsn hqL hlw hgi;have hr0':(s.sc j ⟨⟨(i:Int),(a:Int),false⟩,wz y',b',y'⟩).row_Row[ks[i]]? = some ⟨pl l0 a (di d t),pw l0 w0 a d⟩:=hr0;have hst:=nc d hdd t;have hst2:=nc d hdd (fx (t++ [r]));rw [Bp hdd hr0' hsn (by omega) (by omega) ht1 (by omega) r];simp only [bsm];have o1:=wX (l:=l0) (p:=di d t) (p':=di d (fx (t++ [r]))) (ao a) (by omega) (by omega);have o2:=Ax (l:=l0) (w:=w0) (p:=di d t) (p':=di d (fx (t++ [r]))) (ao a) (by omega) (by omega);rw [hst,hst2] at o2;have hsn2:Snd (pl l0 a (di d (fx (t++ [r])))):=by
    rw [←o1];exact hsn.paint (wO _ _) (by rw [iG]; omega)
   have hv4:=hv2.row hik (r:=⟨pl l0 a (di d (fx (t++ [r]))),pw (pl l0 a (di d t)) (pw l0 w0 a d) a d⟩) hsn2 (by simp only [iG]; exact hcells);refine ⟨_,_,_,ks,rfl,⟨hv4.self,hfr.sr (aJ hik) _,⟨b',po hj,e2⟩,h.n,?_⟩,_,rfl⟩;rw [hw,hq'];have hfx2:=C6 (t:=t) (by omega) r;rw [o2,hqL,hq1A.1,hq1A.2,List.set_set,←hfx2];unfold Bj;rw [hl0,hw0]
  ·rw [ag (by simpa using hle)];have hW:W=1:=by
    rcases xL y' with ⟨_,q1⟩ | ⟨_,q1⟩ <;> omega
   refine ⟨_,q,_,ks,rfl,⟨hv2,hfr,⟨b',po hj,e2⟩,h.n,?_⟩,_,rfl⟩;rw [hw,hq'];have h2:wz y=2:=by
    rcases xL y with ⟨_,q1⟩ | ⟨_,q1⟩
    ·rw [hw,q1] at hle; omega
    ·exact q1
   rw [hq1,h2,hW,AU,AU]
 ·rw [af (by simpa using hw)];have hy1:wz y=1∧wz y'=2:=by
   rcases xL y with ⟨_,q1⟩ | ⟨q1,q2⟩
   ·rcases xL y' with ⟨_,q3⟩ | ⟨_,q3⟩
    ·rw [q1,q3] at hw; exact absurd rfl hw
    ·exact ⟨q1,q3⟩
   ·have:=Ez q1 (fp r) x;rw [hy'] at this;unfold wz at hw;rw [this,q1] at hw;exact absurd rfl hw
  simp only [hv2.p,bsm];rw [gF (cD hv2.p)];simp only [bsm];have hv3:=hv2.set c q.Auto;have hc3:((s.sc j ⟨c,wz y',b',y'⟩).sp k ⟨some g,c,q.Auto⟩).widen_Cluster[j]? = some ⟨c,wz y',b',y'⟩:=po hj;rw [hc3];simp only [bsm];rw [AP e2];simp only [bsm];obtain ⟨s4,q4,ks4,i,a,p1,p2,p3,p4,p5,p6,p7,_⟩:=zG hv3 (wz y') (t++ [fp r]) htl;rw [p2];simp only [bsm];have hc4:s4.widen_Cluster[j]? = some ⟨c,wz y',b',y'⟩:=by
   rw [sM p4.o];exact hc3
  rw [hc4];simp only [bsm];rw [sE (cD hc4)];refine ⟨_,q4,_,ks4,rfl,⟨p4.self.sc _ _,?_,⟨b',po (cD hc4),e2⟩,p5.trans h.n,?_⟩,⟨⟨(i:Int),(a:Int),false⟩,wz y',b',y'⟩,?_⟩
  ·have h3:=p4.f;have:=h.f.trans h.v.oG h.v.oR (h3.rgp (C':=s) ⟨rfl,rfl,rfl⟩ (Rgp.self _));exact this.rgp (Rgp.self _) ⟨rfl,rfl,rfl⟩
  ·rw [←p3];exact (Bk h0 (by omega) htl (by rw [hy1.1,AQ _ w1]) h.p h.v (h.n.trans hH.symm)).symm
  ·have:=kW (fun y:Sto=>y.sc j ⟨⟨(i:Int),(a:Int),false⟩,wz y',b',y'⟩) p4.o;refine this.trans ?_;show (((s.sc _ _).sc _ _).oth)=_;rw [wk]
def gf (t:List Int) (x:List aS):bu:=(t.zip x).foldl (fun y p=>gz y p.1 p.2) ⟨false,false,false⟩
theorem xK {α β:Type}:∀(t:List α) (x:List β) (r:α) (h:t.length < x.length),(t++ [r]).zip x=t.zip x++ [(r,x[t.length])]
 | [],[],_,h=>by simp at h
 | [],b :: x,r,_=>by simp
 | a :: t,[],_,h=>by simp at h
 | a :: t,b :: x,r,h=>by
  have:=xK t x r (by simpa using h);simp only [da,xG,this,az,Gv]
theorem EB {t:List Int} {x:List aS} (h:t.length < x.length) (r:Int):gf (t++ [r]) x=gz (gf t x) r x[t.length]:=by
 unfold gf;rw [xK t x r h,gu];rfl
theorem xJ {α β:Type}:∀(t:List α) (x:List β) (n:Nat),t.length≤n→t.zip (x.take n)=t.zip x
 | [],_,_,_=>rfl
 | _ :: _,[],_,_=>by simp
 | _ :: _,_ :: _,0,h=>by simp at h
 | a :: t,b :: x,n+1,h=>by
  rw [Hr,xG,xG,xJ t x n (by simpa using h)]
theorem EA (t:List Int) (x:List aS) {n:Nat} (h:t.length≤n):gf t (x.take n)=gf t x:=by
 unfold gf;rw [xJ _ _ _ h]
end Go.Proofs.YtidapncdmjppeaaGreatDoor
namespace Go.Proofs.YtidapncdmjppeaaGreatDoor
open Go Go.Lt
variable {s C:Sto} {g k W:Nat} {ks:List Nat} {q:ae}
def bls (W H:Nat):List ah:=List.replicate H ⟨List.replicate W bl,false⟩
theorem Du {W H:Nat} (w1:1≤W) (w2:W≤1024) (h1:1≤H):∀i (h:i < (bls W H).length),1≤(bls W H)[i].Cells.length∧(bls W H)[i].Cells.length≤1024∧Snd (bls W H)[i].Cells∧(bls W H)[i].Cells.length=((bls W H)[0]'(by omega)).Cells.length:=fun i h=>by
 have e:∀j (hj:j < (bls W H).length),(bls W H)[j]=⟨List.replicate W bl,false⟩:=fun j hj=>by
  unfold bls;exact gQ _
 rw [e i h,e 0 (by omega)];simp only [er];exact ⟨w1,w2,pi W,trivial⟩
theorem yC (n m:Int):lL s n m=some ((s.addr ((bls (sd n) (sd m)).map lr)).add_grid_Grid ⟨(List.range' s.row_Row.length (sd m)).map some⟩,some s.grid_Grid.length):=by
 have hsd:=uz m;have hL:∀i,((bls (sd n) (sd m)).map lr).take i=List.replicate (min i (sd m)) ⟨List.replicate (sd n) bl,false⟩:=fun i=>by
  unfold bls;rw [List.map_replicate,List.take_replicate];rfl
 have hlen:((bls (sd n) (sd m)).map lr).length=sd m:=by simp [bls]
 have hH:aW 1 (aO m 1024)=(sd m:Int):=by
  rw [dF,fw];unfold sd;omega
 unfold lL;rw [hH];simp only [bsm];obtain ⟨t,h3,h4⟩:=dY (σ:=Int×Sto) (τ:=Sto) (n:=sd m) (fuel:=(((sd m:Nat):Int) - 0).toNat+1) (s:=(0,s.add_grid_Grid (⟨([]:List (Option Nat))⟩:bR)))
  (fun i q=>q=((i:Int),(s.addr (((bls (sd n) (sd m)).map lr).take i)).add_grid_Grid ⟨(List.range' s.row_Row.length i).map some⟩))
  (fun t=>t=(s.addr ((bls (sd n) (sd m)).map lr)).add_grid_Grid ⟨(List.range' s.row_Row.length (sd m)).map some⟩)
  (step:=fun s_12=>
 if (decide (s_12.1 < ((sd m:Nat):Int)))=true then
 (s_12.2.grid_Grid[s.grid_Grid.length]?).bind fun o_19=>
 (jO s_12.2 n).bind fun x_21=>
 (app o_19.rows ([x_21.2]:List (Option Nat))).bind fun x_23=>
 (x_21.1.set_grid_Grid s.grid_Grid.length (⟨x_23⟩:bR)).bind fun s_26001=>
 some (.inl ((w64 (s_12.1+1)),s_26001))
 else
 some (.inr (s_12.2)))
  (fun i q hi e=>by
   subst e;refine .inl ⟨_,?_,rfl⟩;have e5:w64 ((i:Int)+1)=((i+1:Nat):Int):=by rw [aN (by omega)]; simp
   have hd:decide ((i:Int) < ((sd m:Nat):Int))=true:=by simp; exact hi
   have hg:((s.addr (((bls (sd n) (sd m)).map lr).take i)).add_grid_Grid ⟨(List.range' s.row_Row.length i).map some⟩).grid_Grid[s.grid_Grid.length]? = some ⟨(List.range' s.row_Row.length i).map some⟩:=by
    simp [Sto.add_grid_Grid,Sto.addr]
   simp only [hd,bF];rw [hg,wU];simp only [bsm];rw [cY (by simp; omega)];simp only [bsm];have hlt:s.grid_Grid.length < (((s.addr (((bls (sd n) (sd m)).map lr).take i)).add_grid_Grid ⟨(List.range' s.row_Row.length i).map some⟩).add_row_Row ⟨List.replicate (sd n) bl,false⟩).grid_Grid.length:=by
    simp [Sto.add_grid_Grid,Sto.addr,Sto.add_row_Row]
   rw [xX hlt,e5];simp only [bsm]
   congr 4
   refine Fq ?_ ?_ rfl
   ·simp only [Sto.sg,Sto.add_grid_Grid,Sto.add_row_Row,Sto.addr];rw [hL,hL,cN (by omega),cN (by omega),Hj,aI]
   ·simp only [Sto.sg,Sto.add_grid_Grid,Sto.add_row_Row,Sto.addr];rw [dH _ _ (ao _),dd,qa,HK,bA,hL,cN (by omega)];simp)
  (fun q e=>⟨q.2,by subst e; simp,by subst e; simp only; rw [aT (by omega)]⟩)
  (by simp [zl]) (by omega)
 subst h4;rw [h3];rfl
theorem Fr.of_grid (xs:List bc) (x:bR) {n:Nat} (hn:n=s.grid_Grid.length) {m:Nat}:Fr s ((s.addr xs).add_grid_Grid x) k n (List.range' s.row_Row.length m):=by
 subst hn;refine Fr.new (ao _) ?_ ?_ (fun _ _=>rfl) (fun j hj=>?_) (fun j hj=>?_) (ao _) (fun r hr=>(List.mem_range'_1.1 hr).1)
 ·simp [Sto.add_grid_Grid,Sto.addr]
 ·simp [Sto.add_grid_Grid,Sto.addr]
 ·simp only [Sto.add_grid_Grid,Sto.addr]; exact aB hj
 ·simp only [Sto.add_grid_Grid,Sto.addr]; exact aB hj
theorem Gw.addp (h:Gw s g ks W) (x:bd):Gw (s.add_place_Pen x) g ks W:=⟨h.g,h.r,h.h1,h.h2,h.w1,h.w2⟩
theorem Bm (n m:Int):∃s' ks,lW s n m=some (s',some s.place_Pen.length)∧Pv s s' s.place_Pen.length s.grid_Grid.length (sd n) ⟨bls (sd n) (sd m),⟨0,0,false⟩,true⟩ ks:=by
 have h1:=uz n;have h2:=uz m;have hb:(bls (sd n) (sd m)).length=sd m:=by simp [bls]
 have h0:((bls (sd n) (sd m))[0]'(by omega)).Cells.length=sd n:=by simp [bls]
 obtain ⟨g1,g2⟩:=E6 (s:=s) (L:=bls (sd n) (sd m)) (by omega) (by omega) (Du h1.1 h1.2 h2.1);rw [h0] at g1;rw [hb] at g1 g2;unfold lW;rw [yC];refine ⟨_,_,rfl,⟨?_,g1.addp _,?_,?_,rfl,(Fr.of_grid _ _ rfl).addp _⟩⟩
 ·simp [Sto.add_place_Pen,Sto.add_grid_Grid,Sto.addr]
 ·exact HU
 ·exact g2
def sil (r:Int):Bool:=(decide (0≤r) && decide (r < 32)) || (decide (127≤r) && decide (r≤159))
theorem Cb (r:Int):iB r=some (sil r):=by
 simp only [iB,aV,bQ,bsm,sil,zL]
theorem oy (r:Int):iL r=some (sil r):=by
 simp only [iL,aV,bQ,bsm,sil,zL,aM];rw [cG];simp;omega
theorem ws (r:Int) (h:r≠13∧r≠10∧r≠8):dx q r=some (q,sil r):=by
 unfold dx;rw [ag (by simpa using h.1)];simp only [bsm];rw [ag (by simpa using h.2.1)];simp only [bsm];rw [ag (by simpa using h.2.2)];simp only [bsm];rw [oy];rfl
theorem EM (h:Pv C s k g W q ks) (r:Int):∃s' q' ks',nY s (some k) r=some (s',sil r)∧dx q r=some (q',sil r)∧Pv C s' k g W q' ks'∧ks'.length=ks.length∧(Hd q.At W ks.length→Hd q'.At W ks.length):=by
 have w1:=h.g.w1;have w2:=h.g.w2;unfold nY;rw [Cb];simp only [bsm,bG,fM,h.p];by_cases hs:sil r=true
 ·rw [hs];simp only [cW,ak,aY];rw [ii h.g,dZ h.g];simp only [bsm];rw [oe _ h.g.w1 h.g.w2 h.g.h1 h.g.h2];have hd:=rN q.At h.g.w1 h.g.h1;have hh:=nN h;by_cases h13:r=13
  ·subst h13;simp only [bsm,HW,bF,dj];rw [gF (cD h.p)];refine ⟨_,_,ks,rfl,?_,h.set ⟨(hc q.At W ks.length).Row,0,false⟩ q.Auto,rfl,fun _=>⟨hd.rr,by simp only; omega,fun e=>by cases e⟩⟩;unfold dx;rw [hh,oy,hs];rfl
  by_cases h10:r=10
  ·subst h10;obtain ⟨s',q',ks',a1,a2,v,hn,hnd,_⟩:=uG h;simp only [bsm];rw [ag (by decide),af (by decide),a1];refine ⟨s',q',ks',rfl,?_,v,hn,fun _=>hnd⟩;unfold dx;rw [ag (by decide)];simp only [bsm];rw [af (by decide),show (⟨q.L,⟨q.At.Row,q.At.Col,q.At.Pending⟩,q.Auto⟩:ae)=q from rfl,a2];simp only [bsm];rw [ag (by decide),oy,hs];rfl
  by_cases h8:r=8
  ·subst h8;have hcc:=hd.cc;have hb:ke (hc q.At W ks.length)=some ⟨(hc q.At W ks.length).Row,max 0 ((hc q.At W ks.length).Col - 1),false⟩:=by
    unfold ke;by_cases h0:(hc q.At W ks.length).Col > 0
    ·rw [af (by simpa using h0),aN (by omega)];simp only [bsm,aM,ai.mk.injEq,uv,zj];omega
    ·rw [ag (by simpa using h0)];simp only [bsm,aM,ai.mk.injEq,uv,zj];omega
   simp only [bsm];rw [ag (by decide),ag (by decide),af (by decide),hb];simp only [bsm];rw [gF (cD h.p)];refine ⟨_,_,ks,rfl,?_,h.set ⟨(hc q.At W ks.length).Row,max 0 ((hc q.At W ks.length).Col - 1),false⟩ q.Auto,rfl,fun _=>⟨hd.rr,by simp only; omega,fun e=>by cases e⟩⟩;unfold dx;rw [ag (by decide)];simp only [bsm];rw [ag (by decide)];simp only [bsm];rw [af (by decide),show (⟨q.L,⟨q.At.Row,q.At.Col,q.At.Pending⟩,q.Auto⟩:ae)=q from rfl,hh];simp only [bsm];rw [oy,hs,aN (by omega),fw];rfl
  ·simp only [bsm];rw [ag (by simpa using h13),ag (by simpa using h10),ag (by simpa using h8)];exact ⟨s,q,ks,rfl,by rw [ws r ⟨h13,h10,h8⟩,hs],h,rfl,id⟩
 ·have hf:sil r=false:=by simpa using hs
  rw [hf];simp only [iD,bF];have hn:r≠13∧r≠10∧r≠8:=by
   refine ⟨?_,?_,?_⟩ <;> (rintro rfl; revert hf; decide)
  exact ⟨s,q,ks,rfl,by rw [ws r hn,hf],h,rfl,id⟩
end Go.Proofs.YtidapncdmjppeaaGreatDoor
namespace Go.Proofs.YtidapncdmjppeaaGreatDoor
open Go Go.Lt
def pj (a b:Int):Int:=(eW a b).getD 0
def clz (a:Int):Int:=if a < 0∨13 < a then 0 else a
def pjT (i j:Nat):Bool:=match eW i j,fg i j with
 | some x,some y=>x==y && (x != 2 || ((i==6)==(j==6))) && (x==0 || !(i==1 || i==2 || i==3 || j==1 || j==2 || j==3) || (i==1 && j==2))
 | _,_=>false
theorem FD:((List.range 14).all fun i=>(List.range 14).all fun j=>pjT i j)=true:=by kernel_rfl
theorem AN (a:Int):∃i:Nat,clz a=(i:Int)∧i < 14∧(0 < i→a=(i:Int)):=by
 unfold clz;split
 ·exact ⟨0,rfl,by omega,fun h=>by omega⟩
 ·exact ⟨a.toNat,by omega,by omega,fun _=>by omega⟩
theorem lV (a:Int):gM a=some (clz a):=by
 unfold gM clz;simp only [bQ,bsm];by_cases h:a < 0∨13 < a
 ·rw [af (by simp only [aF,an]; omega),af h]
 ·rw [ag (by simp only [aF,an]; omega),ag h]
theorem uq (a:Int):clz (clz a)=clz a:=by
 unfold clz
 repeat' split
 all_goals omega
theorem Bn (a b:Int):eW a b=eW (clz a) (clz b):=by
 unfold eW;rw [lV,lV,lV,lV,uq,uq]
theorem Bi (a b:Int):fg a b=fg (clz a) (clz b):=by
 have h:∀(a:Int),((orE (decide (a < 0)) (some (decide (a > 13)))).bind fun d_6=>if d_6=true then (some (0):Option (Int)) else (some (a):Option (Int)))=some (clz a):=fun a=>by
  have:=lV a;unfold gM at this;exact this
 unfold fg;rw [h,h,h,h,uq,uq]
theorem zH (a b:Int):∃x,eW a b=some x∧fg a b=some x∧pj a b=x∧(x=2→(a=6↔b=6))∧(x≠0→(a=1∨a=2∨a=3∨b=1∨b=2∨b=3)→a=1∧b=2):=by
 obtain ⟨i,hi,i14,i0⟩:=AN a;obtain ⟨j,hj,j14,j0⟩:=AN b;have h:=List.all_eq_true.1 (List.all_eq_true.1 FD i (List.mem_range.2 i14)) j (List.mem_range.2 j14);have ia:∀n:Nat,0 < n→n < 14→(a=(n:Int)↔i=n):=fun n h0 h1=>by
  constructor
  ·intro e;unfold clz at hi;split at hi <;> omega
  ·intro e; subst e; exact i0 h0
 have jb:∀n:Nat,0 < n→n < 14→(b=(n:Int)↔j=n):=fun n h0 h1=>by
  constructor
  ·intro e;unfold clz at hj;split at hj <;> omega
  ·intro e; subst e; exact j0 h0
 have a1:=ia 1 (by omega) (by omega);have a2:=ia 2 (by omega) (by omega);have a3:=ia 3 (by omega) (by omega);have a6:=ia 6 (by omega) (by omega);have b1:=jb 1 (by omega) (by omega);have b2:=jb 2 (by omega) (by omega);have b3:=jb 3 (by omega) (by omega);have b6:=jb 6 (by omega) (by omega);unfold pj;rw [Bn,Bi,hi,hj];unfold pjT at h;split at h
 ·rename_i x y e1 e2
  simp only [aw,aF,aX,nH,CI,em,vD,ej] at h;obtain ⟨⟨hxy,h2⟩,h3⟩:=h;subst hxy;refine ⟨x,e1,e2,by rw [e1]; rfl,fun hx=>?_,fun hx hc=>?_⟩
  ·rcases h2 with q | q
   ·exact absurd hx q
   ·have q1:(i==6)=(j==6):=q;rw [cG,aX,aX] at q1;omega
  ·rcases h3 with (q | q) | q
   ·exact absurd q hx
   ·exfalso
    omega
   ·omega
 ·cases h
theorem D5 (a b:Int):eW a b=some (pj a b):=by
 obtain ⟨x,h1,_,h3,_⟩:=zH a b;rw [h1,h3]
def sgB (s:Sg):cB:=⟨s.some,s.last,s.pict,s.conj,s.odd⟩
theorem Ch (s:Sg) (p:aS):cX (sgB s) p=some (sgB (sgN s p),sgJ pj s p):=by
 have hj:cR (sgB s) p=some (sgJ pj s p):=by
  unfold cR sgB sgJ;simp only [aV,bsm,D5]
  cases s.some with
  | false=>rfl
  | true=>
   simp only [cW,ak,aY,fQ]
   cases h1:(p.Conj==1 && s.conj==2) with
   | true=>rfl
   | false=>
    simp only [ak,aY,bsm,km]
    cases h2:(p.Pict && s.pict==2) with
    | true=>rfl
    | false=>
     simp only [ak,aY,km];by_cases h3:pj s.last p.Break=1
     ·rw [af (by simpa using h3),h3];rfl
     ·rw [ag (by simpa using h3),show (pj s.last p.Break==1)=false by simpa using h3,km];by_cases h4:pj s.last p.Break=2
      ·rw [af (by simpa using h4),h4];rfl
      ·rw [ag (by simpa using h4),show (pj s.last p.Break==2)=false by simpa using h4];rfl
 have hp:cI (sgB s) p=some (nxP s.pict p):=by
  unfold cI sgB nxP;simp only [aV,bsm];by_cases h1:p.Pict=true
  ·rw [af h1,af h1]
  ·rw [ag h1,ag h1];by_cases h2:s.pict=1∧p.Break=4
   ·rw [af (by simpa using h2),af h2]
   ·rw [ag (by simpa using h2),ag h2];by_cases h3:s.pict=1∧p.Break=5
    ·rw [af (by simpa using h3),af h3]
    ·rw [ag (by simpa using h3),ag h3]
 have hc:cy (sgB s) p=some (nxC s.conj p):=by
  unfold cy sgB nxC;simp only [aX]
  repeat' split
  all_goals rfl
 unfold cX;simp only [ak,aY];rw [hj,hp,hc];simp only [bsm,aV];rfl
theorem wi (d:cB):dr d=some (sgB sg0):=rfl
def GG (n:Nat):Bool:= !sil n || (((pr n).Break==1 || (pr n).Break==2 || (pr n).Break==3) && !(pr n).Pict && (pr n).Conj==0)
theorem DT:(List.range 160).all GG=true:=by kernel_rfl
theorem F4:gT.all (fun x=> !(x.2.2==1 || x.2.2==2) || (decide (0≤x.1) && decide (x.2.1≤31)))=true:=by kernel_rfl
theorem Ft {r:Int} (h:sil r=true):0≤r∧r < 160:=by
 unfold sil at h;simp only [aF,aw,an] at h;omega
theorem Cc:Sil pj pr sil:=by
 refine ⟨fun r hr=>?_,fun a b ha hne=>?_,fun a b hb hne=>?_,fun r hr=>?_⟩
 ·obtain ⟨h1,h2⟩:=Ft hr;have:=List.all_eq_true.1 DT r.toNat (List.mem_range.2 (by omega));unfold GG at this;rw [oS h1,hr] at this;simp only [cW,km,aw,aF,aX,em] at this;obtain ⟨⟨q1,q2⟩,q3⟩:=this;exact ⟨by rcases q1 with (q | q) | q <;> simp [q],q2,q3⟩
 ·obtain ⟨x,_,_,h3,_,h5⟩:=zH a b;exact h5 (by omega) (by omega)
 ·obtain ⟨x,_,_,h3,_,h5⟩:=zH a b;exact h5 (by omega) (by omega)
 ·have e:(pr r).Break=(lk gT r).getD (hcl r):=rfl;rw [e] at hr;have hh:hcl r=9∨hcl r=10∨hcl r=11∨hcl r=0∨hcl r=12∨hcl r=13:=by
   unfold hcl
   repeat' split
   all_goals simp
  cases hx:fnd (fun x:Int×Int×Int=>x.1) (fun x=>x.2.1) gT r with
  | none=>
   unfold lk at hr;rw [hx] at hr;simp only [Option.map_none,Option.getD_none] at hr;omega
  | some x=>
   unfold lk at hr;rw [hx] at hr;simp only [fk,Option.getD_some] at hr;obtain ⟨m1,m2⟩:=EC hx;have:=List.all_eq_true.1 F4 x m1;rw [rI] at m2;simp only [aF,em,vD,ej,aw,an] at this;unfold sil;simp only [aF,aw,an];omega
def fo {α β:Type} (f:β→α→Option β):β→List α→Option β
 | b,[]=>some b
 | b,a :: l=>(f b a).bind fun b'=>fo f b' l
theorem F9 {α β:Type} (f:β→α→Option β) (b:β) (l m:List α):fo f b (l++m)=(fo f b l).bind fun b'=>fo f b' m:=by
 induction l generalizing b with
 | nil=>rfl
 | cons a l ih=>
  show (f b a).bind (fun b'=>fo f b' (l++m))=((f b a).bind fun b'=>fo f b' l).bind fun b'=>fo f b' m;rw [HR]
  congr 1
  funext b'
  exact ih b'
theorem qi {α β:Type} (f:β→α→Option β) (b:β) (l:List α) (a:α):fo f b (l++ [a])=(fo f b l).bind fun b'=>f b' a:=by
 rw [F9]
 congr 1
 funext b'
 show (f b' a).bind (fun b'=>some b')=f b' a
 cases f b' a <;> rfl
def Dc (q:ae) (r:Int):Option ae:=(dx q r).map (·.1)
def w16 (c:List Int):Int:=wz (gf (c.take 16) ((c.take 16).map pr))
def uK (q:ae) (c:List Int):Option ae:=
 if sil (c.headD 0)=true then fo Dc q c else (bb q (w16 c) (c.take 16)).map (·.1)
theorem uJ {q:ae} {a:Int} {t:List Int} (h:sil a=true):uK q (a :: t)=fo Dc q (a :: t):=by
 unfold uK;rw [af (show sil ((a :: t).headD 0)=true from h)]
theorem yr {q:ae} {a:Int} {t:List Int} (h:sil a=false):uK q (a :: t)=(bb q (w16 (a :: t)) ((a :: t).take 16)).map (·.1):=by
 unfold uK;rw [ag (show ¬sil ((a :: t).headD 0)=true by rw [List.headD_cons,h]; simp)]
end Go.Proofs.YtidapncdmjppeaaGreatDoor
namespace Go.Proofs.YtidapncdmjppeaaGreatDoor
def ld (b:Int):Int:=if b < 128 then 1 else if 194≤b∧b≤223 then 2 else if 224≤b∧b≤239 then 3 else if 240≤b∧b≤244 then 4 else 0
def slo (b:Int):Int:=if b=224 then 160 else if b=240 then 144 else 128
def shi (b:Int):Int:=if b=237 then 159 else if b=244 then 143 else 191
theorem tG (b:Int):0≤ld b∧ld b≤4:=by
 unfold ld
 repeat' split
 all_goals omega
def bg:List Int→Int
 | [a]=>ld a
 | [a,b]=>if 2≤ld a∧slo a≤b∧b≤shi a then ld a else 0
 | [a,b,c]=>if 3≤ld a∧slo a≤b∧b≤shi a∧128≤c∧c≤191 then ld a else 0
 | [a,b,c,d]=>if ld a=4∧slo a≤b∧b≤shi a∧128≤c∧c≤191∧128≤d∧d≤191 then 4 else 0
 | _=>0
def b0 (a:Int):Int:=if ld a=2 then a - 192 else if ld a=3 then a - 224 else if ld a=4 then a - 240 else a
def vl:List Int→Int
 | []=>0
 | a :: l=>l.foldl (fun v x=>v * 64+(x - 128)) (b0 a)
def rs0 (b:Int):List Int×List Int:=if 1 < ld b then ([],[b]) else if ld b=1 then ([b],[]) else ([65533],[])
def mF (h:List Int) (b:Int):List Int×List Int:=
 if h= [] then rs0 b else if (h.length:Int)+1 < bg (h++ [b]) then ([],h++ [b]) else if 0 < bg (h++ [b]) then ([vl (h++ [b])],[]) else (65533 :: (rs0 b).1,(rs0 b).2)
def gG:List Int→List Int→List Int×List Int
 | h,[]=>([],h)
 | h,b :: p=>((mF h b).1++(gG (mF h b).2 p).1,(gG (mF h b).2 p).2)
theorem Bd (h a b:List Int):gG h (a++b)=((gG h a).1++(gG (gG h a).2 b).1,(gG (gG h a).2 b).2):=by
 induction a generalizing h with
 | nil=>simp [gG]
 | cons x a ih=>simp [gG,ih]
theorem zD (h a:List Int) (x:Int):gG h (a++ [x])=((gG h a).1++(mF (gG h a).2 x).1,(mF (gG h a).2 x).2):=by
 rw [Bd];simp [gG]
def Hh (h:List Int):Prop:=h= []∨(h.length:Int) < bg h
theorem Hh.len {h:List Int} (hh:Hh h):h.length≤3:=by
 rcases hh with rfl | hh
 ·simp
 ·match h,hh with
  | [],_=>simp
  | [_],_=>simp
  | [_,_],_=>simp
  | [_,_,_],_=>simp
  | [a,b,c,d],q=>simp only [bg,az,aH] at q; split at q <;> omega
  | _ :: _ :: _ :: _ :: _ :: _,q=>simp only [bg,az] at q; omega
end Go.Proofs.YtidapncdmjppeaaGreatDoor
namespace Go.Proofs.YtidapncdmjppeaaGreatDoor
open Go Go.Lt
def Byt (b:Int):Prop:=0≤b∧b≤255
def Bts (l:List Int):Prop:=∀x∈l,Byt x
theorem ym {b:Int} (h:Byt b):iI b=some (ld b):=by
 obtain ⟨h1,h2⟩:=h;unfold iI ld;simp only [aV,bsm,aw,an,zL];have e1:w64 (0+1)=1:=rfl;have e2:w64 (1+1)=2:=rfl;have e3:w64 (2+1)=3:=rfl;have e4:w64 (3+1)=4:=rfl;rw [e1,e2,e3,e4]
 repeat' split
 all_goals first | rfl | omega
theorem zI {b:Int} (h:Byt b) (hl:2≤ld b):jy b=some (slo b,shi b):=by
 unfold jy slo shi;rw [ym h];simp only [bsm,aX,an];rw [ag (by omega)];have e1:IntKind.u8.wrap (IntKind.u8.wrap (191 - 16) - 32)=143:=by decide
 have e2:IntKind.u8.wrap (191 - 32)=159:=by decide
 rw [e1,e2];by_cases a1:b=224
 ·subst a1; rfl
 by_cases a2:b=240
 ·subst a2; rfl
 by_cases a3:b=244
 ·subst a3; rfl
 by_cases a4:b=237
 ·subst a4; rfl
 rw [ag a1,ag a2,ag a3,ag a4,ag a1,ag a2,ag a4,ag a3];rfl
def Dx (n:Nat):Bool:=(kQ n==if ld n=0 then some 0 else some (b0 n))
theorem Dw:(List.range 256).all Dx=true:=by kernel_rfl
theorem CG {b:Int} (h:Byt b) (hl:1≤ld b):kQ b=some (b0 b):=by
 obtain ⟨h1,h2⟩:=h;have:=List.all_eq_true.1 Dw b.toNat (List.mem_range.2 (by omega));unfold Dx at this;rw [aX,oS h1,ag (by omega)] at this;exact this
def B7 (n:Nat):Bool:=(jW .u8 n 63==if 128≤n∧n≤191 then (n:Int) - 128 else jW .u8 n 63)
theorem B6:(List.range 256).all B7=true:=by kernel_rfl
theorem B5 {b:Int} (h1:128≤b) (h2:b≤191):jW .u8 b 63=b - 128:=by
 have:=List.all_eq_true.1 B6 b.toNat (List.mem_range.2 (by omega));unfold B7 at this;rw [aX,oS (by omega),af (by omega)] at this;exact this
theorem FH {x y:Nat} (hx:x < 1000000000) (hy:y < 64):nb .i64 ((x:Int) * 64) (y:Int)=((x * 64+y:Nat):Int):=by
 have e1:BitVec.ofInt 64 ((x:Int) * 64)=BitVec.ofNat 64 (x * 64):=by
  rw [show ((x:Int) * 64)=((x * 64:Nat):Int) by simp,Hp]
 have e2:BitVec.ofInt 64 (y:Int)=BitVec.ofNat 64 y:=Hp _ _;have e3:(x * 64) ||| y=x * 64+y:=by
  have:=Nat.shiftLeft_add_eq_or_of_lt (show y < 2 ^ 6 by omega) x;rw [Nat.shiftLeft_eq] at this;exact this.symm
 unfold nb;rw [show IntKind.i64.bits=64 from rfl,e1,e2,BitVec.toNat_or,HO,HO,Ag (by omega),Ag (by omega),e3];exact aN (by omega)
def Dv (d:bw) (h:List Int):Prop:=
 Hh h∧Bts h∧d=(match h with | []=>⟨0,0,0,0,0⟩ | [a]=>⟨1,ld a - 1,slo a,shi a,b0 a⟩ | a :: b :: t=>⟨(h.length:Int),bg h - (h.length:Int),128,191,vl h⟩)
theorem wD {b:Int} (h:Byt b):∃d',cg ⟨0,0,0,0,0⟩ b=some (d',(rs0 b).1)∧Dv d' (rs0 b).2:=by
 have hb:=h;obtain ⟨h1,h2⟩:=hb;unfold cg rs0;rw [ym h];simp only [bsm,aX];have hin:=tG b;by_cases e0:ld b=0
 ·rw [af e0,ag (by omega),ag (by omega)];exact ⟨_,rfl,.inl rfl,fun x hx=>by simp at hx,rfl⟩
 ·rw [ag e0];by_cases e1:ld b=1
  ·rw [af e1,ag (by omega),af e1,zu (by omega)];exact ⟨_,rfl,.inl rfl,fun x hx=>by simp at hx,rfl⟩
  ·rw [ag e1,af (by omega),CG h (by omega),zI h (by omega)];simp only [bsm];rw [aN (by omega)];refine ⟨_,rfl,.inr ?_,fun x hx=>?_,rfl⟩
   ·simp only [az,aH,bg]; omega
   ·rw [List.mem_singleton.1 hx]; exact h
theorem DO {h:List Int} (hne:h≠ []) (b:Int):vl (h++ [b])=vl h * 64+(b - 128):=by
 cases h with
 | nil=>exact absurd rfl hne
 | cons a t=>simp [vl,gu]
theorem DA {a:Int} (h:Byt a) (hl:2≤ld a):0≤b0 a∧b0 a≤31:=by
 obtain ⟨h1,h2⟩:=h;unfold b0;unfold ld at hl;unfold ld
 repeat' split at hl
 all_goals (repeat' split)
 all_goals omega
theorem GE {h:List Int} (hh:Hh h) (hb:Bts h) (hne:h≠ []):0≤vl h∧vl h≤131071:=by
 rcases hh with rfl | hh
 ·exact absurd rfl hne
 ·match h,hh with
  | [],_=>exact absurd rfl hne
  | [a],q=>
   have ha:=hb a (by simp);simp only [bg,az,aH] at q;have:=DA ha (by omega);simp only [vl,List.foldl];omega
  | [a,b],q=>
   have ha:=hb a (by simp);simp only [bg,az,aH] at q;split at q
   ·rename_i g
    have:=DA ha (by omega);have hs:128≤b∧b≤191:=by
     have:=g.2;unfold slo shi at this
     repeat' split at this
     all_goals omega
    simp only [vl,List.foldl];omega
   ·omega
  | [a,b,c],q=>
   have ha:=hb a (by simp);simp only [bg,az,aH] at q;split at q
   ·rename_i g
    have:=DA ha (by omega);have hs:128≤b∧b≤191:=by
     have:=g.2;unfold slo shi at this
     repeat' split at this
     all_goals omega
    simp only [vl,List.foldl];omega
   ·omega
  | [a,b,c,d],q=>simp only [bg,az,aH] at q; split at q <;> omega
  | _ :: _ :: _ :: _ :: _ :: _,q=>simp only [bg,az] at q; omega
theorem CK {h:List Int} (hh:(h.length:Int) < bg h) (hne:h≠ []) (b:Int):∃lo hi,(match h with | [a]=>(slo a,shi a) | _=>(128,191))=(lo,hi)∧128≤lo∧hi≤191∧
  ((lo≤b∧b≤hi)→bg (h++ [b])=bg h)∧(¬(lo≤b∧b≤hi)→bg (h++ [b])=0):=by
 match h,hh with
 | [],_=>exact absurd rfl hne
 | [a],q=>
  simp only [bg,az,aH] at q;refine ⟨slo a,shi a,rfl,by unfold slo; repeat' split; all_goals omega,by unfold shi; repeat' split; all_goals omega,fun g=>?_,fun g=>?_⟩
  ·simp only [da,bS,bg];rw [af ⟨by omega,g.1,g.2⟩]
  ·simp only [da,bS,bg];rw [ag (fun c=>g c.2)]
 | [a,c],q=>
  simp only [bg,az,aH] at q;refine ⟨128,191,rfl,by omega,by omega,fun g=>?_,fun g=>?_⟩
  ·simp only [da,bS,bg];split at q
   ·rename_i r
    rw [af ⟨by omega,r.2.1,r.2.2,g.1,g.2⟩,af r]
   ·omega
  ·simp only [da,bS,bg];rw [ag (fun r=>g r.2.2.2)]
 | [a,c,d],q=>
  have hl:=tG a;simp only [bg,az,aH] at q;refine ⟨128,191,rfl,by omega,by omega,fun g=>?_,fun g=>?_⟩
  ·simp only [da,bS,bg];split at q
   ·rename_i r
    rw [af ⟨by omega,r.2.1,r.2.2.1,r.2.2.2.1,r.2.2.2.2,g.1,g.2⟩,af r];omega
   ·omega
  ·simp only [da,bS,bg];rw [ag (fun r=>g r.2.2.2.2.2)]
 | [a,b,c,d],q=>simp only [bg,az,aH] at q; split at q <;> omega
 | _ :: _ :: _ :: _ :: _ :: _,q=>simp only [bg,az] at q; omega
theorem Dv.shape {d:bw} {h:List Int} (v:Dv d h) (hne:h≠ []):∃lo hi,(match h with | [a]=>(slo a,shi a) | _=>(128,191))=(lo,hi)∧d=⟨(h.length:Int),bg h - (h.length:Int),lo,hi,vl h⟩:=by
 obtain ⟨_,_,e⟩:=v
 match h,e with
 | [],_=>exact absurd rfl hne
 | [a],e=>exact ⟨_,_,rfl,e⟩
 | a :: b :: t,e=>exact ⟨_,_,rfl,e⟩
theorem De {d:bw} {h:List Int} (v:Dv d h) {b:Int} (hb:Byt b):∃d',cQ d b=some (d',(mF h b).1)∧Dv d' (mF h b).2:=by
 have v0:=v;obtain ⟨hh,hbs,e⟩:=v;unfold cQ mF;simp only [ak,aY];by_cases hne:h= []
 ·subst hne;simp only at e;subst e;obtain ⟨d',a1,a2⟩:=wD hb;simp only [HW,eq_self,bF,a1,bsm];exact ⟨d',rfl,a2⟩
 ·obtain ⟨lo,hi,e1,e2⟩:=v0.shape hne;have hlt:(h.length:Int) < bg h:=by
   rcases hh with q | q
   ·exact absurd q hne
   ·exact q
  obtain ⟨lo',hi',f1,f2,f3,f4,f5⟩:=CK hlt hne b;rw [e1] at f1;cases f1;subst e2;have hlen:0 < h.length:=by
   cases h with
   | nil=>exact absurd rfl hne
   | cons _ _=>simp
  have hl3:=hh.len;rw [ag hne];simp only [aX];rw [ag (by omega)];simp only [bQ,bsm,aF,an,gt_iff_lt];by_cases hr:lo≤b∧b≤hi
  ·have hbg:=f4 hr;have hvl:=GE hh hbs hne;have hbgl:bg h≤4:=by
    match h,hlen with
    | [a],_=>simp only [bg]; exact (tG a).2
    | [a,b],_=>simp only [bg]; split <;> first | exact (tG a).2 | omega
    | [a,b,c],_=>simp only [bg]; split <;> first | exact (tG a).2 | omega
    | a :: b :: c :: x :: t,_=>simp at hl3
   have hbits:nb .i64 (w64 (vl h * 2 ^ 6)) (w64 (jW .u8 b 63))=vl h * 64+(b - 128):=by
    obtain ⟨x,hx⟩:∃x:Nat,vl h=(x:Int):=⟨(vl h).toNat,by omega⟩;obtain ⟨y,hy⟩:∃y:Nat,b - 128=(y:Int):=⟨(b - 128).toNat,by omega⟩;rw [B5 (by omega) (by omega),hx,hy,show ((x:Int) * 2 ^ 6)=(x:Int) * 64 from rfl,aN (by omega),aN (by omega),FH (by omega) (by omega)];simp
   have hbs':Bts (h++ [b]):=fun x hx=>by
    rcases List.mem_append.1 hx with hx | hx
    ·exact hbs x hx
    ·rw [List.mem_singleton.1 hx]; exact hb
   have hsn:=DO hne b;rw [ag (by omega),aN (by omega),aN (by omega),hbits,←hsn];by_cases hm:(h.length:Int)+1 < bg h
   ·rw [af (by omega),af (by rw [hbg]; omega)];refine ⟨_,rfl,.inr (by rw [hbg]; simp; omega),hbs',?_⟩;simp only [hbg]
    match h,hlen with
    | a :: t,_=>
     cases t with
     | nil=>simp only [da,bS,az,aH,bw.mk.injEq,zj,uv]; omega
     | cons b2 t=>simp only [da,az,aj,aH,bw.mk.injEq,zj,uv]; omega
   ·rw [ag (by omega),ag (by rw [hbg]; omega),af (by rw [hbg]; omega),zu (by rw [hsn]; omega)];exact ⟨_,rfl,.inl rfl,fun x hx=>by simp at hx,rfl⟩
  ·have hz:=f5 hr;rw [af (by omega),ag (by rw [hz]; omega),ag (by rw [hz]; omega)];have hfl:bE ⟨(h.length:Int),bg h - (h.length:Int),lo,hi,vl h⟩=some (⟨0,0,0,0,0⟩,[65533]):=by
    unfold bE co;simp only [ak,aY,bsm,aX];rw [ag (by omega)]
   rw [hfl];simp only [bsm];obtain ⟨d',a1,a2⟩:=wD hb;rw [a1];simp only [bsm];have hrl:(rs0 b).1.length≤1:=by
    unfold rs0;split
    ·simp
    ·split <;> simp
   rw [cY (by simp; omega)];exact ⟨d',rfl,a2⟩
theorem Df {d:bw} {h:List Int} (v:Dv d h):co d=some (h.length:Int):=by
 unfold co;simp only [ak,aY];by_cases hne:h= []
 ·subst hne;obtain ⟨_,_,e⟩:=v;simp only at e;rw [e];rfl
 ·obtain ⟨lo,hi,_,e⟩:=v.shape hne;rw [e]
theorem BE {d:bw} {h:List Int} (v:Dv d h):bE d=some (⟨0,0,0,0,0⟩,if h= [] then [] else [65533]):=by
 unfold bE;rw [Df v];simp only [bsm,aX];by_cases hne:h= []
 ·subst hne;obtain ⟨_,_,e⟩:=v;simp only at e;rw [af (by simp),af rfl,e]
 ·rw [ag (fun e=>hne (bW (by omega))),ag hne]
theorem Dv.zero:Dv ⟨0,0,0,0,0⟩ []:=⟨.inl rfl,fun x hx=>by simp at hx,rfl⟩
def fr (n:Nat):Int:=if n=2 then 128 else if n=3 then 2048 else if n=4 then 65536 else 0
theorem px (a:Int):(ld a=1∧a < 128)∨(ld a=2∧194≤a∧a≤223)∨(ld a=3∧224≤a∧a≤239)∨(ld a=4∧240≤a∧a≤244)∨(ld a=0∧128≤a∧¬(194≤a∧a≤244)):=by
 unfold ld
 repeat' split
 all_goals omega
theorem Hg {p:List Int} (h:0 < bg p):(p.length:Int)≤bg p:=by
 match p,h with
 | [],h=>simp [bg] at h
 | [a],h=>simp only [bg,az,aH] at h⊢; omega
 | [a,b],h=>simp only [bg,az,aH] at h⊢; split at h <;> rename_i g; rw [af g]; omega; omega
 | [a,b,c],h=>simp only [bg,az,aH] at h⊢; split at h <;> rename_i g; rw [af g]; omega; omega
 | [a,b,c,d],h=>simp only [bg,az,aH] at h⊢; split at h <;> rename_i g; rw [af g]; omega; omega
 | _ :: _ :: _ :: _ :: _ :: _,h=>simp [bg] at h
theorem Hf (p:List Int):0≤bg p∧bg p≤4:=by
 match p with
 | []=>simp [bg]
 | [a]=>exact tG a
 | [a,b]=>simp only [bg]; split <;> first | exact tG a | omega
 | [a,b,c]=>simp only [bg]; split <;> first | exact tG a | omega
 | [a,b,c,d]=>simp only [bg]; split <;> omega
 | _ :: _ :: _ :: _ :: _ :: _=>simp [bg]
theorem Bts.snoc {h:List Int} (hb:Bts h) {b:Int} (h1:Byt b):Bts (h++ [b]):=fun x hx=>by
 rcases List.mem_append.1 hx with hx | hx
 ·exact hb x hx
 ·rw [List.mem_singleton.1 hx]; exact h1
theorem Bb (h:List Int) (b:Int):(mF h b).1.length≤2:=by
 have hrl:(rs0 b).1.length≤1:=by
  unfold rs0;split
  ·simp
  ·split <;> simp
 unfold mF;split
 ·omega
 ·split
  ·simp
  ·split
   ·simp
   ·simp; omega
theorem Bc {h:List Int} (hb:Bts h) {b:Int} (h1:Byt b):Bts (mF h b).2:=by
 have h0:Bts (rs0 b).2:=by
  unfold rs0;split
  ·intro x hx; rw [List.mem_singleton.1 hx]; exact h1
  ·split <;> (intro x hx; simp at hx)
 unfold mF;split
 ·exact h0
 ·split
  ·exact hb.snoc h1
  ·split
   ·intro x hx; simp at hx
   ·exact h0
theorem wo {h p:List Int} (hb:Bts h) (hp:Bts p):Bts (gG h p).2:=by
 induction p generalizing h with
 | nil=>exact hb
 | cons b p ih=>exact ih (Bc hb (hp b (by simp))) (fun x hx=>hp x (iW _ hx))
theorem Bts.nil:Bts []:=fun x hx=>by simp at hx
end Go.Proofs.YtidapncdmjppeaaGreatDoor
namespace Go.Proofs.YtidapncdmjppeaaGreatDoor
open Go Go.Lt
variable {s C:Sto} {f k g W H:Nat} {q P:ae} {ks:List Nat}
def Sto.sf (s:Sto) (f:Nat) (x:bz):Sto:={ s with feed_Feeder:=s.feed_Feeder.set f x}
theorem pm {x:bz} (h:f < s.feed_Feeder.length):s.set_feed_Feeder f x=some (s.sf f x):=by
 unfold Sto.set_feed_Feeder;rw [af h];rfl
theorem sy {x:bz} (h:f < s.feed_Feeder.length):(s.sf f x).feed_Feeder[f]? = some x:=by simp [Sto.sf,h]
theorem EZ (s:Sto) (f:Nat) (x y:bz):(s.sf f x).sf f y=s.sf f y:=by simp [Sto.sf]
theorem wP (s:Sto) (f:Nat) (x:bz):(s.sf f x).feed_Feeder.length=s.feed_Feeder.length:=by simp [Sto.sf]
theorem Pv.sf (h:Pv s s k g W q ks) (x:bz):Pv (s.sf f x) (s.sf f x) k g W q ks:=
 ⟨h.p,⟨h.g.g,h.g.r,h.g.h1,h.g.h2,h.g.w1,h.g.w2⟩,h.nd,h.l,rfl,h.f.rgp ⟨rfl,rfl,rfl⟩ ⟨rfl,rfl,rfl⟩⟩
theorem Wc.sf {j:Nat} {c:ai} {y:bu} {t:List Int} {n:Int} (h:Wc s j c y t n) (x:bz):Wc (s.sf f x) j c y t n:=⟨h.x⟩
def FF (C:Sto) (f j:Nat):Prop:=∃x,C.feed_Feeder[f]? = some x∧x.open_=some j
structure Fz (C s:Sto) (f:Nat) (op:Option Nat):Prop where
 fl:C.feed_Feeder.length≤s.feed_Feeder.length
 ff:∀j,j < C.feed_Feeder.length→j≠f→s.feed_Feeder[j]? = C.feed_Feeder[j]?
 wl:C.widen_Cluster.length≤s.widen_Cluster.length
 wc:∀j,j < C.widen_Cluster.length→¬FF C f j→s.widen_Cluster[j]? = C.widen_Cluster[j]?
 oc:∀j,op=some j→FF C f j∨C.widen_Cluster.length≤j
 sc:s.screen_Screen=C.screen_Screen
theorem oz {a b:Sto} (h:a.oth=b.oth):a.feed_Feeder=b.feed_Feeder:=by
 have:=kW Sto.feed_Feeder h;exact this
theorem wZ {a b:Sto} (h:a.oth=b.oth):a.screen_Screen=b.screen_Screen:=by
 have:=kW Sto.screen_Screen h;exact this
theorem Fz.oth {s':Sto} {op:Option Nat} (h:Fz C s f op) (e:s'.oth=s.oth):Fz C s' f op:=by
 refine ⟨by rw [oz e]; exact h.fl,by rw [oz e]; exact h.ff,by rw [sM e]; exact h.wl,by rw [sM e]; exact h.wc,h.oc,by rw [wZ e]; exact h.sc⟩
theorem Fz.sf {op:Option Nat} (h:Fz C s f op) (x:bz) (op':Option Nat) (ho:∀j,op'=some j→FF C f j∨C.widen_Cluster.length≤j):Fz C (s.sf f x) f op':=
 ⟨by rw [wP]; exact h.fl,fun j a b=>by simp only [Sto.sf]; rw [aU (tv b)]; exact h.ff j a b,h.wl,h.wc,ho,h.sc⟩
theorem Fz.more {op:Option Nat} (h:Fz C s f op) {s':Sto} {z:ba} (e:s'.oth=(s.add_widen_Cluster z).oth):Fz C s' f op:=by
 have e1:s'.feed_Feeder=s.feed_Feeder:=(oz e).trans rfl;have e2:s'.widen_Cluster=s.widen_Cluster++ [z]:=(sM e).trans rfl;have e3:s'.screen_Screen=s.screen_Screen:=(wZ e).trans rfl;have hl:=h.wl;exact ⟨by rw [e1]; exact h.fl,by rw [e1]; exact h.ff,by rw [e2,aj]; omega,fun j a b=>by rw [e2,aB (by omega)]; exact h.wc j a b,h.oc,by rw [e3]; exact h.sc⟩
theorem Fz.grow {j:Nat} (h:Fz C s f (some j)) {s':Sto} {z:ba} (e:s'.oth=(s.sc j z).oth):Fz C s' f (some j):=by
 have e1:s'.feed_Feeder=s.feed_Feeder:=(oz e).trans rfl;have e2:s'.widen_Cluster=s.widen_Cluster.set j z:=(sM e).trans rfl;have e3:s'.screen_Screen=s.screen_Screen:=(wZ e).trans rfl;refine ⟨by rw [e1]; exact h.fl,by rw [e1]; exact h.ff,by rw [e2,cf]; exact h.wl,fun i a b=>?_,h.oc,by rw [e3]; exact h.sc⟩;rw [e2,aU ?_]
 ·exact h.wc i a b
 ·rintro rfl;rcases h.oc j rfl with q | q
  ·exact b q
  ·omega
def yo (G:List Int):Bool:=match G.getLast? with | none=>true | some x=>sil x
theorem kz (G:List Int) (r:Int):yo (G++ [r])=sil r:=by simp [yo]
def ou (G:List Int):Sg:=if yo G=true then sg0 else sgF (G.map pr)
structure Op (s:Sto) (k g W H:Nat) (P:ae) (G:List Int) (q:ae) (j:Nat):Prop where
 x:∃q0 c C0 s0 ks0 cs0 cl,cls pj pr G=cs0++ [cl]∧cl≠ []∧sil (cl.headD 0)=false∧fo uK P cs0=some q0∧Pv C0 s0 k g W q0 ks0∧ks0.length=H∧
  Wc s j c (gf (cl.take 16) ((cl.take 16).map pr)) (cl.take 16) (w16 cl)∧bb q0 (w16 cl) (cl.take 16)=some (q,c)
structure Fd (C s:Sto) (f k g W H:Nat) (P:ae) (G h:List Int) (q:ae) (ks:List Nat) (op:Option Nat):Prop where
 v:Pv s s k g W q ks
 fr:Fr C s k g ks
 fz:Fz C s f op
 n:ks.length=H
 hd:Hd q.At W H
 l:fo uK P (cls pj pr G)=some q
 gv:∀x∈G,vld x=true
 d:∃d,s.feed_Feeder[f]? = some ⟨some k,d,sgB (ou G),op⟩∧Dv d h
 o1:yo G=true→op=none
 o2:yo G=false→∃j,op=some j∧Op s k g W H P G q j
theorem Fi {x:Int} (h:vld x=true):r32 x:=by
 unfold vld at h;unfold r32;simp only [aw,an] at h;omega
theorem EK {q q':ae} {r:Int} {b:Bool} (h:dx q r=some (q',b)):Dc q r=some q':=by
 unfold Dc;rw [h];rfl
theorem DN (c:List Int):(c.take 16).length≤16:=by rw [aA]; omega
theorem tJ (t:List Int) (r:Int):gf (t++ [r]) ((t++ [r]).map pr)=gz (gf t (t.map pr)) r (pr r):=by
 rw [EB (by simp) r];have e:((t++ [r]).map pr).take t.length=t.map pr:=by simp
 rw [←EA t ((t++ [r]).map pr) (ao _),e];simp
theorem C8 {r:Int} (h:vld r=true):fp r=r:=by unfold fp; rw [af h]
theorem Cy {C s:Sto} {k g W H:Nat} {q0 q:ae} {ks:List Nat} (h:Pv C s k g W q0 ks) (hn:ks.length=H) {n:Int} {t:List Int} (ht:t.length≤1000000) {c:ai} (hp:bb q0 n t=some (q,c)):Hd q.At W H:=by
 obtain ⟨s',q',ks',i,a,_,_,a2,_,_,a5,_⟩:=zG h n t ht;rw [hp] at a2;cases a2;rw [←hn];exact a5
theorem Dh {G h:List Int} {op:Option Nat} (F:Fd C s f k g W H P G h q ks op) {r:Int} (hr:vld r=true):∃s' q' ks' op',fq s (some f) r=some s'∧Fd C s' f k g W H P (G++ [r]) h q' ks' op':=by
 obtain ⟨d,hd,hdv⟩:=F.d;have hf:=cD hd;have hgv:∀x∈G++ [r],vld x=true:=fun x hx=>by
  rcases List.mem_append.1 hx with hx | hx
  ·exact F.gv x hx
  ·rw [List.mem_singleton.1 hx]; exact hr
 have hcs:=ve pj pr G r;unfold fq;rw [Cb];simp only [bsm]
 cases hs:sil r with
 | true=>
  simp only [bF];unfold cZ;simp only [bG,iD,bF,bsm,hd];rw [pm hf];simp only [bsm,wi];rw [pm (by rw [wP]; exact hf),EZ];simp only [bsm];rw [sy hf];simp only [bsm];obtain ⟨s',q',ks',a1,a2,a3,hks,hcd⟩:=EM (F.v.sf (f:=f) ⟨some k,d,sgB sg0,none⟩) r;rw [a1];have hdo:=EK a2;have hf1:Fr C (s.sf f ⟨some k,d,sgB sg0,none⟩) k g ks:=F.fr.rgp (Rgp.self _) ⟨rfl,rfl,rfl⟩;have hv1:=F.v.sf (f:=f) ⟨some k,d,sgB sg0,none⟩;refine ⟨s',q',ks',none,rfl,⟨a3.self,hf1.trans hv1.oG hv1.oR a3.f,(F.fz.sf ⟨some k,d,sgB sg0,none⟩ none (fun j e=>by cases e)).oth a3.o,by rw [hks]; exact F.n,by rw [←F.n]; exact hcd (by rw [F.n]; exact F.hd),?_,hgv,⟨d,?_,hdv⟩,fun _=>rfl,fun e=>?_⟩⟩
  ·
   rw [hcs];split
   ·rename_i hj
    obtain ⟨l0,x,rfl,hx⟩:=Cc.yes hs hj;obtain ⟨cs0,c,ec⟩:=jr ((rW (pj:=pj) (pr:=pr) (l0++ [x])).2.2 (by simp));obtain ⟨c',rfl⟩:=yM ec;rw [ec,qm];have hall:=Cc.all (l0++ [x]) (c'++ [x]) (by rw [ec]; simp);have hal:∀y∈c'++ [x],sil y=true:=by
     rcases hall with q | q
     ·exact q
     ·have:=q x (by simp); rw [hx] at this; cases this
    have hl:=F.l;rw [ec,qi] at hl;rw [qi]
    cases hq0:fo uK P cs0 with
    | none=>rw [hq0] at hl; cases hl
    | some q0=>
     rw [hq0] at hl;simp only [bsm] at hl⊢;obtain ⟨a,t,ea⟩:∃a t,c'++ [x]=a :: t:=by
      cases h:c'++ [x] with
      | nil=>simp at h
      | cons a t=>exact ⟨a,t,rfl⟩
     have ha:sil a=true:=hal a (by rw [ea]; simp);rw [ea,uJ ha] at hl;rw [ea,da,uJ ha,←da,qi,hl];exact hdo
   ·rw [qi,F.l];simp only [bsm];rw [uJ hs];show (Dc q r).bind (fun b=>some b)=_;rw [hdo];rfl
  ·have:ou (G++ [r])=sg0:=by unfold ou; rw [kz,af hs]
   rw [this,oz a3.o];exact sy hf
  ·rw [kz,hs] at e;cases e
 | false=>
  simp only [ak,aY];rw [Fl r (Fi hr)];simp only [bsm,hd];rw [Ch];simp only [bsm];rw [pm hf];simp only [bsm];have hsj:sgJ pj (ou G) (pr r)=jn pj pr G r∧sgN (ou G) (pr r)=sgF ((G++ [r]).map pr):=by
   unfold ou;rw [bA,xH,ux]
   cases hL:yo G with
   | false=>simp only [ak,aY]; exact ⟨rfl,trivial⟩
   | true=>
    simp only [bF];by_cases hG:G= []
    ·subst hG; exact ⟨rfl,rfl⟩
    ·obtain ⟨G0,x,rfl⟩:=jr hG;rw [kz] at hL;rw [Cc.no G0 hL hs,Cc.new G0 hL];exact ⟨rfl,rfl⟩
  rw [hsj.1,hsj.2];have hsg:ou (G++ [r])=sgF ((G++ [r]).map pr):=by unfold ou; rw [kz,hs]; rfl
  rw [←hsg];have hv1:=F.v.sf (f:=f) ⟨some k,d,sgB (ou (G++ [r])),op⟩;have hf1:Fr C (s.sf f ⟨some k,d,sgB (ou (G++ [r])),op⟩) k g ks:=F.fr.rgp (Rgp.self _) ⟨rfl,rfl,rfl⟩;have hz1:=F.fz.sf ⟨some k,d,sgB (ou (G++ [r])),op⟩ op F.fz.oc;have hg1:(s.sf f ⟨some k,d,sgB (ou (G++ [r])),op⟩).feed_Feeder[f]? = some ⟨some k,d,sgB (ou (G++ [r])),op⟩:=sy hf;simp only [aV,bsm];rw [hg1];simp only [bsm];have hfix:=C8 hr
  cases hj:jn pj pr G r with
  | true=>
   have hL:yo G=false:=by
    cases hL:yo G with
    | false=>rfl
    | true=>
     obtain ⟨G0,x,rfl⟩:=jr (AD pj pr hj);rw [kz] at hL;rw [Cc.no G0 hL hs] at hj;cases hj
   obtain ⟨j,rfl,⟨q0,c,C0,s0,ks0,cs0,cl,ec,hcne,hcs0,hq0,hp0,hn0,hw,hput⟩⟩:=F.o2 hL;simp only [bG,iD,Bool.and_self,bF];have hcs2:cls pj pr (G++ [r])=cs0++ [cl++ [r]]:=by rw [hcs,af hj,ec,qm]
   have hclv:∀x∈cl.take 16,vld x=true:=fun x hx=>F.gv x (by
    rw [←(rW (pj:=pj) (pr:=pr) G).1,ec];exact List.mem_flatten.2 ⟨cl,by simp,dP hx⟩)
   have hhd:sil ((cl++ [r]).headD 0)=false:=by
    cases cl with
    | nil=>exact absurd rfl hcne
    | cons a t=>exact hcs0
   have hw16:w16 cl=wz (gf (cl.take 16) ((cl.take 16).map pr)):=rfl;rw [hw16] at hw hput;have on:On C (s.sf f ⟨some k,d,sgB (ou (G++ [r])),some j⟩) k g W H j q0 (gf (cl.take 16) ((cl.take 16).map pr)) (cl.take 16) q c ks:=⟨hv1,hf1,hw.sf _,F.n,hput⟩;have hlayc:∀q2 c2,bb q0 (w16 (cl++ [r])) ((cl++ [r]).take 16)=some (q2,c2)→fo uK P (cls pj pr (G++ [r]))=some q2:=fun q2 c2 e=>by
    rw [hcs2,qi,hq0];simp only [bsm]
    cases hcc:cl++ [r] with
    | nil=>simp at hcc
    | cons a t=>
     rw [hcc] at e hhd;rw [yr (by simpa using hhd),e];rfl
   have hlen:cl.length < 16∨16≤cl.length:=by omega
   have hcl1:1≤cl.length:=by
    cases cl with
    | nil=>exact absurd rfl hcne
    | cons _ _=>simp
   rcases hlen with hlt | hge
   ·have et:cl.take 16=cl:=aT (by omega);have et2:(cl++ [r]).take 16=cl++ [r]:=aT (by simp; omega);rw [et] at on hclv;obtain ⟨s',q',c',ks',b1,b2,z,b3⟩:=Ep hp0 hn0 on hcl1 hlt hclv r (pr r);rw [b1];simp only [bsm];rw [hfix,←tJ] at b2;have hw2:w16 (cl++ [r])=wz (gf (cl++ [r]) ((cl++ [r]).map pr)):=by unfold w16; rw [et2]
    refine ⟨s',q',ks',some j,rfl,⟨b2.v,b2.f,hz1.grow b3,b2.n,Cy hp0 hn0 (DN cl |> fun _=>by simp; omega) b2.p,hlayc q' c' (by rw [hw2,et2]; exact b2.p),hgv,⟨d,?_,hdv⟩,fun e=>?_,fun _=>⟨j,rfl,⟨q0,c',C0,s0,ks0,cs0,cl++ [r],hcs2,by simp,hhd,hq0,hp0,hn0,?_,by rw [hw2,et2]; exact b2.p⟩⟩⟩⟩
    ·rw [show s'.feed_Feeder=(s.sf f ⟨some k,d,sgB (ou (G++ [r])),some j⟩).feed_Feeder from (oz b3).trans rfl];exact hg1
    ·rw [kz,hs] at e; cases e
    ·rw [hw2,et2];exact b2.w
   ·have hfl:(cl.take 16).length=16:=by rw [aA]; omega
    have et2:(cl++ [r]).take 16=cl.take 16:=fZ hge;have hw2:w16 (cl++ [r])=w16 cl:=by unfold w16; rw [et2]
    rw [Bt on hfl r (pr r)];simp only [bsm];refine ⟨_,q,ks,some j,rfl,⟨hv1,hf1,hz1,F.n,F.hd,hlayc q c (by rw [hw2,et2]; exact hput),hgv,⟨d,hg1,hdv⟩,fun e=>?_,fun _=>⟨j,rfl,⟨q0,c,C0,s0,ks0,cs0,cl++ [r],hcs2,by simp,hhd,hq0,hp0,hn0,?_,by rw [hw2,et2]; exact hput⟩⟩⟩⟩
    ·rw [kz,hs] at e; cases e
    ·rw [hw2,et2];exact hw.sf _
  | false=>
   simp only [lv,ak,aY];obtain ⟨s2,q2,c2,ks2,b1,b2,z,b3⟩:=Dy hv1 r (pr r);rw [b1];simp only [bsm];have e1:s2.feed_Feeder=(s.sf f ⟨some k,d,sgB (ou (G++ [r])),op⟩).feed_Feeder:=(oz b3).trans rfl;rw [e1,hg1];simp only [bsm];have hf2:f < s2.feed_Feeder.length:=by rw [e1,wP]; exact hf
   rw [pm hf2];rw [hfix] at b2;have hgf:gz ⟨false,false,false⟩ r (pr r)=gf [r] ([r].map pr):=by
    have:=tJ [] r;simp only [bS] at this;rw [this];rfl
   rw [hgf] at b2;have hcs2:cls pj pr (G++ [r])=cls pj pr G++ [[r]]:=by rw [hcs,hj]; rfl
   have hlay:fo uK P (cls pj pr (G++ [r]))=some q2:=by
    rw [hcs2,qi,F.l];simp only [bsm];rw [yr hs];show (bb q (wz (gf [r] ([r].map pr))) [r]).map (·.1)=some q2;rw [b2.p];rfl
   refine ⟨_,q2,ks2,some (s.sf f ⟨some k,d,sgB (ou (G++ [r])),op⟩).widen_Cluster.length,rfl,⟨b2.v.sf _,?_,(hz1.more b3).sf _ _ (fun j e=>?_),b2.n.trans F.n,Cy F.v F.n (by simp) b2.p,hlay,hgv,⟨d,sy hf2,hdv⟩,fun e=>?_,fun _=>⟨_,rfl,⟨q,c2,_,_,ks,cls pj pr G,[r],hcs2,by simp,hs,F.l,F.v,F.n,b2.w.sf _,b2.p⟩⟩⟩⟩
   ·exact (hf1.trans hv1.oG hv1.oR b2.f).rgp (Rgp.self _) ⟨rfl,rfl,rfl⟩
   ·cases e;exact .inr hz1.wl
   ·rw [kz,hs] at e; cases e
end Go.Proofs.YtidapncdmjppeaaGreatDoor
namespace Go.Proofs.YtidapncdmjppeaaGreatDoor
open Go Go.Lt
variable {s C:Sto} {f k g W H:Nat} {q P:ae} {ks:List Nat} {op:Option Nat}
theorem Fj {p:List Int} (hp:Bts p) (hb:bg p=(p.length:Int)) (hne:p≠ []):vld (vl p)=true:=by
 have h4:=Hf p;unfold vld;simp only [aw,an]
 match p,hne with
 | [a],_=>
  obtain ⟨a1,a2⟩:=hp a (by simp);have hl:=px a;simp only [bg,az,aH] at hb;simp only [vl,List.foldl,b0]
  repeat' split
  all_goals simp only [aF,an]
  all_goals omega
 | [a,b],_=>
  obtain ⟨a1,a2⟩:=hp a (by simp);have hl:=px a;simp only [bg,az,aH] at hb;split at hb
  ·rename_i g
   have hs:128≤b∧b≤191:=by
    have:=g.2;unfold slo shi at this
    repeat' split at this
    all_goals omega
   simp only [vl,List.foldl,b0]
   repeat' split
   all_goals simp only [aF,an]
   all_goals omega
  ·omega
 | [a,b,c],_=>
  obtain ⟨a1,a2⟩:=hp a (by simp);have hl:=px a;simp only [bg,az,aH] at hb;split at hb
  ·rename_i g
   have hs:128≤b∧b≤191∧(a=237→b≤159):=by
    have:=g.2;unfold slo shi at this
    repeat' split at this
    all_goals omega
   simp only [vl,List.foldl,b0]
   repeat' split
   all_goals simp only [aF,an]
   all_goals omega
  ·omega
 | [a,b,c,d],_=>
  obtain ⟨a1,a2⟩:=hp a (by simp);have hl:=px a;simp only [bg,az,aH] at hb;split at hb
  ·rename_i g
   have hs:128≤b∧b≤191∧(a=240→144≤b)∧(a=244→b≤143):=by
    have:=g.2;unfold slo shi at this
    repeat' split at this
    all_goals omega
   simp only [vl,List.foldl,b0]
   repeat' split
   all_goals simp only [aF,an]
   all_goals omega
  ·omega
 | _ :: _ :: _ :: _ :: _ :: _,_=>simp only [bg,az] at hb; omega
theorem Ar {b:Int} (h:Byt b):∀x∈(rs0 b).1,vld x=true:=fun x hx=>by
 obtain ⟨h1,h2⟩:=h;have hl:=px b;unfold rs0 at hx;split at hx
 ·simp at hx
 ·split at hx
  ·rw [List.mem_singleton.1 hx];unfold vld;simp only [aw,aF,an];omega
  ·rw [List.mem_singleton.1 hx]; rfl
theorem Ba {h:List Int} (hb:Bts h) {b:Int} (h1:Byt b):∀x∈(mF h b).1,vld x=true:=fun x hx=>by
 unfold mF at hx;split at hx
 ·exact Ar h1 x hx
 ·split at hx
  ·simp at hx
  ·split at hx
   ·rename_i g1 g2
    rw [List.mem_singleton.1 hx];refine Fj (hb.snoc h1) ?_ (by simp);have:=Hg g2;simp only [aj,az,aH] at this⊢;omega
   ·rcases List.mem_cons.1 hx with hx | hx
    ·rw [hx]; rfl
    ·exact Ar h1 x hx
theorem ex4 {α β γ δ:Type} {X:Option α} {Q:α→β→γ→δ→Prop} (h:∃a,X=some a∧∃b c d,Q a b c d):∃a b c d,X=some a∧Q a b c d:=by
 obtain ⟨a,h1,b,c,d,h2⟩:=h;exact ⟨a,b,c,d,h1,h2⟩
theorem AK {G h:List Int} (F:Fd C s f k g W H P G h q ks op) {l:List Int} (hl:l.length≤1000000) (hv:∀x∈l,vld x=true):∃s' q' ks' op',fj s (some f) l=some s'∧Fd C s' f k g W H P (G++l) h q' ks' op':=by
 unfold fj;refine ex4 (kA (n:=l.length) (fun i (st:Int×Sto)=>st.1=(i:Int)∧∃q' ks' op',Fd C st.2 f k g W H P (G++l.take i) h q' ks' op') (fun u:Sto=>∃q' ks' op',Fd C u f k g W H P (G++l) h q' ks' op') (p:=fun s':Sto=>∃q' ks' op',Fd C s' f k g W H P (G++l) h q' ks' op') (fun i st hi hI=>?_) (fun st hI=>?_) ⟨rfl,q,ks,op,by simpa using F⟩ (by omega) (fun u hu=>⟨u,rfl,hu⟩))
 ·obtain ⟨i',st⟩:=st;obtain ⟨e,q1,ks1,op1,F1⟩:=hI;simp only at e F1;subst e;simp only;rw [af (dlt hi),bp hi,dL hi (by omega)];simp only [bsm];obtain ⟨s2,q2,ks2,op2,b1,b2⟩:=Dh F1 (hv _ (aJ hi));rw [b1];refine .inl ⟨_,rfl,rfl,q2,ks2,op2,?_⟩;rw [ax hi,←aI];exact b2
 ·obtain ⟨i',st⟩:=st;obtain ⟨e,q1,ks1,op1,F1⟩:=hI;simp only at e F1;subst e;refine ⟨st,by simp only; rw [ag (by simp)],q1,ks1,op1,?_⟩;rw [aT (ao _)] at F1;exact F1
theorem Fd.dec {G h h':List Int} (F:Fd C s f k g W H P G h q ks op) {d d':bw} (hd:s.feed_Feeder[f]? = some ⟨some k,d,sgB (ou G),op⟩) (hv:Dv d' h'):Fd C (s.sf f ⟨some k,d',sgB (ou G),op⟩) f k g W H P G h' q ks op:=by
 have hf:=cD hd;refine ⟨F.v.sf _,F.fr.rgp (Rgp.self _) ⟨rfl,rfl,rfl⟩,F.fz.sf _ _ F.fz.oc,F.n,F.hd,F.l,F.gv,⟨d',sy hf,hv⟩,F.o1,fun e=>?_⟩;obtain ⟨j,e1,⟨q0,c,C0,s0,ks0,cs0,cl,a1,a2,a3,a4,a5,a6,a7,a8⟩⟩:=F.o2 e;exact ⟨j,e1,⟨q0,c,C0,s0,ks0,cs0,cl,a1,a2,a3,a4,a5,a6,a7.sf _,a8⟩⟩
theorem BB {G h:List Int} (F:Fd C s f k g W H P G h q ks op) (hb:Bts h) {b:List Int} (hl:b.length≤9223372036854775807) (hbt:Bts b):∃s' q' ks' op',fu s (some f) b=some s'∧Fd C s' f k g W H P (G++(gG h b).1) (gG h b).2 q' ks' op':=by
 unfold fu;simp only [bG,ak,aY,bsm];refine ex4 (kA (n:=b.length) (fun i (st:Int×Sto)=>st.1=(i:Int)∧∃q' ks' op',Fd C st.2 f k g W H P (G++(gG h (b.take i)).1) (gG h (b.take i)).2 q' ks' op') (fun u:Sto=>∃q' ks' op',Fd C u f k g W H P (G++(gG h b).1) (gG h b).2 q' ks' op') (p:=fun s':Sto=>∃q' ks' op',Fd C s' f k g W H P (G++(gG h b).1) (gG h b).2 q' ks' op') (fun i st hi hI=>?_) (fun st hI=>?_) ⟨rfl,q,ks,op,by simpa [gG] using F⟩ (by omega) (fun u hu=>⟨u,rfl,hu⟩))
 ·obtain ⟨i',st⟩:=st;obtain ⟨e,q1,ks1,op1,F1⟩:=hI;simp only at e F1;subst e;simp only;rw [af (dlt hi),bp hi,dL hi (by omega)];obtain ⟨d,hd,hdv⟩:=F1.d;simp only [bsm,hd];have hx:=hbt _ (aJ hi);obtain ⟨d',c1,c2⟩:=De hdv hx;rw [c1];simp only [bsm];rw [pm (cD hd)];simp only [bsm];have hbt':Bts (b.take i):=fun x hx=>hbt x (dP hx);obtain ⟨s2,q2,ks2,op2,b1,b2⟩:=AK (F1.dec hd c2) (l:=(mF (gG h (b.take i)).2 b[i]).1) (by have:=Bb (gG h (b.take i)).2 b[i]; omega) (Ba (wo hb hbt') hx);rw [b1];refine .inl ⟨_,rfl,rfl,q2,ks2,op2,?_⟩;rw [ax hi,zD];simp only;rw [←aI];exact b2
 ·obtain ⟨i',st⟩:=st;obtain ⟨e,q1,ks1,op1,F1⟩:=hI;simp only at e F1;subst e;refine ⟨st,by simp only; rw [ag (by simp)],q1,ks1,op1,?_⟩;rw [aT (ao _)] at F1;exact F1
theorem sP {G h:List Int} (F:Fd C s f k g W H P G h q ks op):∃s',cZ s (some f)=some s'∧Fd C s' f k g W H q [] h q ks none:=by
 obtain ⟨d,hd,hdv⟩:=F.d;have hf:=cD hd;unfold cZ;simp only [bG,iD,bF,bsm,hd];rw [pm hf];simp only [bsm,wi];rw [pm (by rw [wP]; exact hf),EZ];refine ⟨_,rfl,⟨F.v.sf _,F.fr.rgp (Rgp.self _) ⟨rfl,rfl,rfl⟩,F.fz.sf _ none (fun j e=>by cases e),F.n,F.hd,rfl,fun x hx=>by simp at hx,⟨d,sy hf,hdv⟩,fun _=>rfl,fun e=>by cases e⟩⟩
theorem BA {G h:List Int} (F:Fd C s f k g W H P G h q ks op):∃s' q' ks',ft s (some f)=some s'∧Fd C s' f k g W H q' [] [] q' ks' none∧fo uK P (cls pj pr (G++(if h= [] then [] else [65533])))=some q':=by
 obtain ⟨d,hd,hdv⟩:=F.d;have hf:=cD hd;unfold ft;simp only [bG,ak,aY,bsm,hd];rw [BE hdv];simp only [bsm];rw [pm hf];simp only [bsm];obtain ⟨s2,q2,ks2,op2,b1,b2⟩:=AK (F.dec hd Dv.zero) (l:=if h= [] then [] else [65533]) (by split <;> simp) (fun x hx=>by
  split at hx
  ·simp at hx
  ·rw [List.mem_singleton.1 hx]; rfl)
 rw [b1];simp only [bsm];obtain ⟨s3,c1,c2⟩:=sP b2;rw [c1];exact ⟨s3,q2,ks2,rfl,c2,b2.l⟩
theorem Fz.self (s:Sto) (f:Nat) (op:Option Nat) (h:∀x,s.feed_Feeder[f]? = some x→x.open_=op) (hf:f < s.feed_Feeder.length):Fz s s f op:=
 ⟨ao _,fun _ _ _=>rfl,ao _,fun _ _ _=>rfl,fun j e=> .inl ⟨s.feed_Feeder[f],ab hf,by rw [h _ (ab hf)]; exact e⟩,rfl⟩
theorem Pv.addf (h:Pv s s k g W q ks) (x:bz):Pv (s.add_feed_Feeder x) (s.add_feed_Feeder x) k g W q ks:=
 ⟨h.p,⟨h.g.g,h.g.r,h.g.h1,h.g.h2,h.g.w1,h.g.w2⟩,h.nd,h.l,rfl,h.f.rgp ⟨rfl,rfl,rfl⟩ ⟨rfl,rfl,rfl⟩⟩
theorem C9 (h:Pv s s k g W q ks) (hh:Hd q.At W ks.length):∃s',mP s (some k)=some (s',some s.feed_Feeder.length)∧Fd s' s' s.feed_Feeder.length k g W ks.length q [] [] q ks none∧s'=s.add_feed_Feeder ⟨some k,⟨0,0,0,0,0⟩,⟨false,0,0,0,false⟩,none⟩:=by
 unfold mP;simp only [bG,fM,bsm,h.p,ak,aY];have hg:(s.add_feed_Feeder ⟨some k,⟨0,0,0,0,0⟩,⟨false,0,0,0,false⟩,none⟩).feed_Feeder[s.feed_Feeder.length]? = some ⟨some k,⟨0,0,0,0,0⟩,⟨false,0,0,0,false⟩,none⟩:=by simp [Sto.add_feed_Feeder]
 refine ⟨_,rfl,⟨h.addf _,(h.addf _).f,Fz.self _ _ _ (fun x hx=>?_) (cD hg),rfl,hh,rfl,fun x hx=>by simp at hx,⟨_,hg,Dv.zero⟩,fun _=>rfl,fun e=>by cases e⟩,rfl⟩;rw [hg] at hx;cases hx;rfl
end Go.Proofs.YtidapncdmjppeaaGreatDoor
namespace Go.Proofs.YtidapncdmjppeaaGreatDoor
open Go Go.Lt
variable {s:Sto} {k:Nat} {l p:List aa} {w:Bool}
theorem G5 {c m:Nat} (h:c≤m):cl (c:Int) m=c:=by unfold cl; omega
theorem AG (n:Int) (m:Nat):eX n 0 m=some ((cl n m:Nat):Int):=by
 simp only [eX,fw,dF,cl,aM];omega
def rg (l:List aa) (w:Bool) (a b:Nat):bc:=if a < b then ⟨pl l a (List.replicate (b - a) bl),pw l w a (b - a)⟩ else ⟨l,w⟩
theorem Cr {a b:Nat} (h:Snd l) (hb:b≤l.length):Snd (rg l w a b).cells:=by
 unfold rg;split
 ·exact h.paint (pi _) (by simp; omega)
 ·exact h
theorem FA (a b:Nat):(rg l w a b).cells.length=l.length:=by
 unfold rg;split
 ·exact iG _ _ _
 ·rfl
theorem rH (h:s.row_Row[k]? = some ⟨l,w⟩) (hs:Snd l) (hl:l.length≤1024) (a b:Int):
  fI s (some k) a b=some (s.sr k (rg l w (cl a l.length) (cl b l.length))):=by
 unfold fI;simp only [ig h,bsm,AG];have ha:=mo a l.length;have hb:=mo b l.length;generalize cl a l.length=a' at *;generalize cl b l.length=b' at *;unfold rg;by_cases hab:a' < b'
 ·have e:w64 ((b':Int) - (a':Int))=((b' - a':Nat):Int):=by rw [aN (by omega)]; omega
  rw [af (by simp; omega),af hab,e,rd,show (max 0 (min (((b' - a':Nat)):Int) 1024)).toNat=b' - a' by omega];simp only [bsm];rw [nL h hs hl (pi _) (by simp; omega) (by simp; omega)];simp
 ·rw [ag (by simp; omega),ag hab,xR h]
theorem nM (l:List aa) (w:Bool) (hl:l.length≤1024) (a b:Int):dq l w a b=some ((rg l w (cl a l.length) (cl b l.length)).cells,(rg l w (cl a l.length) (cl b l.length)).wrap):=by
 unfold dq;have ha:=mo a l.length;have hb:=mo b l.length;have ea:aW 0 (aO a (l.length:Int))=((cl a l.length:Nat):Int):=by simp only [fw,dF,cl]; omega
 have eb:aW 0 (aO b (l.length:Int))=((cl b l.length:Nat):Int):=by simp only [fw,dF,cl]; omega
 rw [ea,eb];generalize cl a l.length=a' at *;generalize cl b l.length=b' at *;unfold rg;by_cases hab:a' < b'
 ·have e:w64 ((b':Int) - (a':Int))=((b' - a':Nat):Int):=by rw [aN (by omega)]; omega
  rw [ag (by simp; omega),af hab,e,ox _ (by omega)];simp only [bsm];have:=sJ l w a' (List.replicate (b' - a') bl) (by omega) (by omega) (by simp; omega);rw [er] at this;rw [show (List.replicate (((b' - a':Nat):Int).toNat) (⟨0,([]:List Int)⟩:aa))=List.replicate (b' - a') bl by rfl,this];rfl
 ·rw [af (by simp; omega),ag hab]
theorem Dm (h:s.row_Row[k]? = some ⟨l,w⟩) (hs:Snd l) (hl:l.length≤1024) (col n:Int):
  jd s (some k) col n=some (if 0≤col∧0 < n then s.sr k (rg l w (cl col l.length) (cl (((cl col l.length:Nat):Int)+((cl n l.length:Nat):Int)) l.length)) else s):=by
 unfold jd;simp only [aV,bsm];by_cases hc:0≤col∧0 < n
 ·rw [af (by simp; omega),af hc];simp only [ig h,bsm,AG];have h1:=mo col l.length;have h2:=mo n l.length;rw [aN (by omega),rH h hs hl];simp only [bsm,G5 h1]
 ·rw [ag (by simp; omega),ag hc]
def ac (l:List aa) (w:Bool) (x A B:Int):bc:=
 if x=0 then rg l w (cl A l.length) (cl B l.length)
 else if x=1 then rg l w 0 (cl (max (-1) (min A l.length)+1) l.length)
 else if x=2 then rg l w (cl A l.length) l.length
 else if x=3 then ⟨(rg l w 0 l.length).cells,false⟩
 else if 0≤A∧0 < B then rg l w (cl A l.length) (cl (((cl A l.length:Nat):Int)+((cl B l.length:Nat):Int)) l.length) else ⟨l,w⟩
theorem E1 {a b:Nat} (h:b≤a):rg l w a b=⟨l,w⟩:=by
 unfold rg;rw [ag (by omega)]
theorem Dj (m:Nat):cl 0 m=0:=by unfold cl; omega
theorem ur (m:Nat):cl (m:Int) m=m:=by unfold cl; omega
theorem zP (h:s.row_Row[k]? = some ⟨l,w⟩) (hs:Snd l) (hl:l.length≤1024) (a b:Int):kR s (some k) a=some (s.sr k (ac l w 1 a b)):=by
 unfold kR eX;simp only [ig h,bsm,fw,dF];rw [aN (by omega),rH h hs hl,Dj];rfl
theorem yG (h:s.row_Row[k]? = some ⟨l,w⟩) (hs:Snd l) (hl:l.length≤1024) (a b:Int):ka s (some k) a=some (s.sr k (ac l w 2 a b)):=by
 unfold ka;simp only [ig h,bsm];rw [rH h hs hl,ur];rfl
theorem wB (h:s.row_Row[k]? = some ⟨l,w⟩) (hs:Snd l) (hl:l.length≤1024) (a b:Int):jA s (some k)=some (s.sr k (ac l w 3 a b)):=by
 have hk:=cD h;unfold jA;simp only [ig h,bsm];rw [rH h hs hl,ur,Dj];simp only [bsm];rw [uB (l:=(rg l w 0 l.length).cells) (w:=(rg l w 0 l.length).wrap) (qP hk),Am];rfl
theorem yH (h:s.row_Row[k]? = some ⟨l,w⟩) (hs:Snd l) (hl:l.length≤1024) (a b:Int):jd s (some k) a b=some (s.sr k (ac l w 4 a b)):=by
 rw [Dm h hs hl,show ac l w 4 a b=if 0≤a∧0 < b then rg l w (cl a l.length) (cl (((cl a l.length:Nat):Int)+((cl b l.length:Nat):Int)) l.length) else ⟨l,w⟩ by rfl];split
 ·rfl
 ·rw [xR h]
theorem D2 (l:List aa) (w:Bool) (hl:l.length≤1024) (x A B:Int):jT l w x A B=some ((ac l w x A B).cells,(ac l w x A B).wrap):=by
 unfold jT ac;by_cases h0:x=0
 ·rw [af (by simpa using h0),af h0,nM l w hl];rfl
 rw [ag (by simpa using h0),ag h0];by_cases h1:x=1
 ·rw [af (by simpa using h1),af h1];by_cases hA:A < 0
  ·rw [af (by simpa using hA),show max (-1) (min A (l.length:Int))+1=0 by omega,Dj,E1 (ao _)]
  ·rw [ag (by simpa using hA),dF,aN (by omega),nM l w hl,Dj,show max (-1) (min A (l.length:Int))=min A (l.length:Int) by omega];rfl
 rw [ag (by simpa using h1),ag h1];by_cases h2:x=2
 ·rw [af (by simpa using h2),af h2,nM l w hl,ur];rfl
 rw [ag (by simpa using h2),ag h2];by_cases h3:x=3
 ·rw [af (by simpa using h3),af h3,nM l w hl,ur,Dj];rfl
 rw [ag (by simpa using h3),ag h3];simp only [bQ,bsm];by_cases hA:0≤A∧0 < B
 ·rw [af hA];by_cases hg:(l.length:Int)≤A
  ·rw [af (by simp; omega),show cl A l.length=l.length by unfold cl; omega,E1 (mo _ _)]
  ·rw [ag (by simp; omega),dF,aN (by omega),nM l w hl];rw [show cl (A+min B (l.length:Int)) l.length=cl (((cl A l.length:Nat):Int)+((cl B l.length:Nat):Int)) l.length by unfold cl; omega];rfl
 ·rw [ag hA,af (by simp; omega)]
theorem Gq (hs:Snd l) (x A B:Int):Snd (ac l w x A B).cells:=by
 unfold ac
 repeat' split
 all_goals first | exact hs | exact Cr hs (mo _ _) | exact Cr hs (ao _)
theorem Gs (x A B:Int):(ac l w x A B).cells.length=l.length:=by
 unfold ac
 repeat' split
 all_goals first | rfl | exact FA _ _
theorem gL {α:Type} {l:List α} {n:Nat} {f:Nat→α} (hl:l.length=n) (h:∀i,i < n→l[i]? = some (f i)):l=(List.range n).map f:=by
 apply bZ;intro i;rcases aL i n with hi | hi
 ·rw [h i hi]; simp [hi]
 ·rw [aR (by omega),aR (by simp; exact hi)]
def trc (l:List aa) (c j:Nat):aa:=if kd l c=3∧(j=c∨j+1=c) then bl else l.getD j bl
def tr (l:List aa) (c:Nat):List aa:=(List.range l.length).map (trc l c)
theorem ph (l:List aa) (c:Nat):(tr l c).length=l.length:=by simp [tr]
theorem B4 {c j:Nat} (h:j < l.length):(tr l c)[j]? = some (trc l c j):=by simp [tr,h]
theorem B3 (l:List aa) (c j:Nat):(trc l c j).Kind=if kd l c=3∧(j=c∨j+1=c) then 0 else kd l j:=by
 unfold trc;split
 ·rfl
 ·exact mz l j
theorem AB (c j:Nat):kd (tr l c) j=if kd l c=3∧(j=c∨j+1=c) then 0 else kd l j:=by
 rcases aL j l.length with h | h
 ·rw [←B3]; simp [kd,B4 h]
 ·rw [lE (by rw [ph]; exact h),lE (l:=l) h]; simp
theorem EY {c:Nat} (h:kd l c≠3):tr l c=l:=by
 symm
 refine gL rfl fun i hi=>?_;unfold trc;rw [ag (by intro e; exact h e.1),av,ab hi];rfl
theorem wI (hs:Snd l) (c:Nat):Snd (tr l c):=fun j hj=>by
 have hj':j < l.length:=by rw [ph] at hj; exact hj
 have he:(tr l c)[j]=trc l c j:=by
  have:=B4 (c:=c) hj';rw [ab hj] at this;exact aq this
 have h2:=fun (h:kd l j=2)=>hs.two h;have h3:=fun (h:kd l j=3)=>hs.three h;have hc:=fun (h:kd l c=3)=>hs.three h;rw [he,B3,AB,AB];refine ⟨?_,?_,?_⟩
 ·unfold trc;split
  ·rfl
  ·exact hs.rg hj'
 ·intro e;split at e
  ·cases e
  ·rename_i hn
   have:=h2 e;rw [ag]
   ·exact this
   ·rintro ⟨q1,q2⟩;have:=hc q1;rcases q2 with rfl | q2
    ·exact hn ⟨q1,.inr rfl⟩
    ·obtain rfl:c=j+2:=by omega
     rw [show j+2 - 1=j+1 by omega] at this;omega
 ·intro e;split at e
  ·cases e
  ·rename_i hn
   have:=h3 e;refine ⟨this.1,?_⟩;rw [ag]
   ·exact this.2
   ·rintro ⟨q1,q2⟩;have:=hc q1;rcases q2 with q2 | q2
    ·rw [←q2] at q1;omega
    ·exact hn ⟨q1,.inl (by omega)⟩
theorem uP (l:List aa) (c:Nat):kd (tr l c) c≠3:=by
 rw [AB];split
 ·decide
 ·rename_i h
  intro e;exact h ⟨e,.inl rfl⟩
theorem wK (hs:Snd l) (hl:l.length≤1024) (c:Nat):iH l c=some (tr l c):=by
 unfold iH;rcases aL c l.length with h | h
 ·have hd:decide ((c:Int) < (l.length:Int))=true:=by simp; exact h
  simp only [hd,je,bp h,bsm];by_cases h3:kd l c=3
  ·have hb:(l[c].Kind==3)=true:=by rw [←iP h,h3]; rfl
   obtain ⟨h0,_⟩:=hs.three h3;have e1:w64 ((c:Int) - 1)=((c - 1:Nat):Int):=by rw [aN (by omega)]; omega
   rw [hb,af rfl,e1,bp (by omega:c - 1 < l.length)];simp only [bsm];rw [ib (by omega)];simp only [bsm];rw [bp (by rw [cf]; exact h)];simp only [bsm];rw [ib (by rw [cf]; exact h)];simp only [bsm]
   congr 1
   refine gL (by simp) fun i hi=>?_;unfold trc;by_cases q1:c=i
   ·subst q1;rw [bf (by rw [cf]; exact h),af ⟨h3,.inl rfl⟩];rfl
   ·rw [aU q1];by_cases q2:c - 1=i
    ·subst q2;rw [bf (by omega),af ⟨h3,.inr (by omega)⟩];rfl
    ·rw [aU q2,ag (by rintro ⟨_,q⟩; omega),av,ab hi];rfl
  ·have hb:(l[c].Kind==3)=false:=by rw [←iP h]; simp [h3]
   rw [hb,ag (by decide),EY h3]
 ·have hd:decide ((c:Int) < (l.length:Int))=false:=by simp; exact h
  simp only [hd,fW,bsm];rw [ag (by decide),EY (by rw [lE h]; decide)]
theorem wJ (hl:l.length≤1024) (c:Nat):fe l c=some (tr l c):=by
 unfold fe;refine xC (uQ (n:=l.length) (trc l c) (t:=tr l c) (fun i hi=>?_) ?_ (by omega)) rfl
 ·simp only [dlt hi,bF,bp hi,bsm,dL hi (by omega),bQ];have hz:bL (decide ((c:Int) < (l.length:Int))) ((idx l c).bind fun x_29=>some (x_29.Kind==3))=some (kd l c==3):=by
   rcases aL c l.length with h | h
   ·have hd:decide ((c:Int) < (l.length:Int))=true:=by simp; exact h
    simp only [hd,je,bp h,bsm,←iP h]
   ·have hd:decide ((c:Int) < (l.length:Int))=false:=by simp; exact h
    simp only [hd,fW];rw [lE h];rfl
  simp only [hz,bsm,aV];rw [show (kd l c==3 && ((i:Int)==(c:Int) || ((i+1:Nat):Int)==(c:Int)))=decide (kd l c=3∧(i=c∨i+1=c)) by
   rw [cG];simp only [aw,aF,aX,an];omega]
  have hx:(if decide (kd l c=3∧(i=c∨i+1=c))=true then (some (0,([]:List Int)):Option (Int×(List Int))) else (some (l[i].Kind,l[i].Text):Option (Int×(List Int))))=some ((trc l c i).Kind,(trc l c i).Text):=by
   unfold trc;split
   ·rename_i h
    rw [af (ky h)];rfl
   ·rename_i h
    rw [ag (by simpa using h),av,ab hi];rfl
  rw [hx];simp only [bsm];rw [cY (by simp; omega)];rfl
 ·simp only [dnl];rfl
def inx (l:List aa) (c n j:Nat):aa:=if j < c then (tr l c).getD j bl else if j < c+n then bl else (tr l c).getD (j - n) bl
def tU (l:List aa) (c n j:Nat):aa:=if j+1=l.length∧(inx l c n j).Kind=2 then bl else inx l c n j
def uV (l:List aa) (c n:Nat):List aa:=(List.range l.length).map (tU l c n)
theorem nP (l:List aa) (c n:Nat):(uV l c n).length=l.length:=by simp [uV]
theorem yz {c n j:Nat} (h:j < l.length):(uV l c n)[j]? = some (tU l c n j):=by simp [uV,h]
theorem uU (l:List aa) (c n j:Nat):(inx l c n j).Kind=if j < c then kd (tr l c) j else if j < c+n then 0 else kd (tr l c) (j - n):=by
 unfold inx;split
 ·exact mz _ _
 ·split
  ·rfl
  ·exact mz _ _
theorem rL (l:List aa) (c n j:Nat) (h:j < l.length):kd (uV l c n) j=if j+1=l.length∧(inx l c n j).Kind=2 then 0 else (inx l c n j).Kind:=by
 rw [show kd (uV l c n) j=(tU l c n j).Kind by simp [kd,yz h]];unfold tU;split <;> rfl
theorem rC (hs:Snd l) (j:Nat):rgt (l.getD j bl)=true:=by
 rcases aL j l.length with h | h
 ·exact hs.rg h
 ·rw [av,aR h];rfl
theorem Es {A:Prop} [Decidable A] {X:Int} (h:(if A∧X=2 then (0:Int) else X)=2):X=2∧¬A:=by
 by_cases q:A∧X=2
 ·rw [af q] at h; omega
 ·rw [ag q] at h; exact ⟨h,fun a=>q ⟨a,h⟩⟩
theorem Bv {A:Prop} [Decidable A] {X:Int} (h:(if A∧X=2 then (0:Int) else X)=3):X=3:=by
 by_cases q:A∧X=2
 ·rw [af q] at h; omega
 ·rwa [ag q] at h
theorem CX {A:Prop} [Decidable A] {X:Int} (h:X≠2):(if A∧X=2 then (0:Int) else X)=X:=ag fun q=>h q.2
theorem yy (hs:Snd l) (c n:Nat):Snd (uV l c n):=fun j hj=>by
 have hj':j < l.length:=by rw [nP] at hj; exact hj
 have he:(uV l c n)[j]=tU l c n j:=by
  have:=yz (c:=c) (n:=n) hj';rw [ab hj] at this;exact aq this
 have ht:=wI hs c;have hlen:=ph l c;have hat:=uP l c;rw [←iP hj,he];refine ⟨?_,?_,?_⟩
 ·unfold tU;split
  ·rfl
  ·unfold inx;split
   ·exact rC ht j
   ·split
    ·rfl
    ·exact rC ht (j - n)
 ·intro e;rw [rL l c n j hj',uU] at e;obtain ⟨e,hl⟩:=Es e
  ·rw [rL l c n (j+1) (by omega),uU];have key:(if j+1 < c then kd (tr l c) (j+1) else if j+1 < c+n then 0 else kd (tr l c) (j+1 - n))=3:=by
    split at e
    ·have h3:=ht.two e;rw [af]
     ·exact h3
     ·rcases aL (j+1) c with q | q
      ·exact q
      ·obtain rfl:c=j+1:=by omega
       exact absurd h3 hat
    ·split at e
     ·cases e
     ·have h3:=ht.two e;rw [ag (by omega),ag (by omega),show j+1 - n=j - n+1 by omega];exact h3
   rw [key];exact CX (by decide)
 ·intro e;rw [rL l c n j hj',uU] at e;have e':=Bv e;split at e'
  ·obtain ⟨h0,h2⟩:=ht.three e';refine ⟨h0,?_⟩;rw [rL l c n (j - 1) (by omega),uU,ag (by rintro ⟨q,_⟩; omega),af (by omega)];exact h2
  ·split at e'
   ·cases e'
   ·obtain ⟨h0,h2⟩:=ht.three e';have hne:j - n≠c:=by
     intro q;rw [q] at e';exact hat e'
    refine ⟨by omega,?_⟩;rw [rL l c n (j - 1) (by omega),uU,ag (by rintro ⟨q,_⟩; omega),ag (by omega),ag (by omega),show j - 1 - n=j - n - 1 by omega];exact h2
theorem FW (hl:l.length≤1024) {c n:Nat} (hc:c < l.length) (h1:1≤n) (hn:c+n≤l.length):ik (tr l c) n c=some (uV l c n):=by
 unfold ik;have htl:=ph l c;rw [rd,show (max 0 (min (n:Int) 1024)).toNat=n by omega];simp only [bsm];have hi:iQ (tr l c) c (List.replicate n bl)=some ((tr l c).take c++List.replicate n bl++(tr l c).drop c):=by
  unfold iQ;rw [af (by rw [htl,er]; unfold far; omega),aZ]
 rw [hi];simp only [bsm];have hO:slc ((tr l c).take c++List.replicate n bl++(tr l c).drop c) 0 ((tr l c).length:Int)=some ((List.range l.length).map (inx l c n)):=by
  have:=sx (xs:=(tr l c).take c++List.replicate n bl++(tr l c).drop c) (i:=0) (j:=(tr l c).length) (by omega) (by simp [htl]; omega);rw [show ((0:Nat):Int)=0 by rfl] at this;rw [this]
  congr 1
  refine gL (by simp [htl]; omega) fun i hi=>?_;rw [mZ,aP,af (by omega),aI];unfold inx;have htk:((tr l c).take c).length=c:=by simp [htl]; omega
  split
  ·rename_i q
   rw [aB (by omega),aP,af q,av,ab (by omega:i < (tr l c).length)];rfl
  ·rename_i q
   rw [aG (by omega),htk];split
   ·rw [aB (by simp; omega),mx,af (by omega)]
   ·rw [aG (by simp; omega),er,bM,show c+(i - c - n)=i - n by omega,av,ab (by omega:i - n < (tr l c).length)];rfl
 rw [hO];simp only [bsm];have e1:w64 (((tr l c).length:Int) - 1)=((l.length - 1:Nat):Int):=by rw [aN (by omega),htl]; omega
 rw [e1,bp (by simp; omega)];simp only [bsm,eK,xI];by_cases hk:(inx l c n (l.length - 1)).Kind=2
 ·rw [af (by rw [hk]; rfl),ib (by simp; omega)];simp only [bsm]
  congr 1
  refine gL (by simp) fun i hi=>?_;unfold tU;by_cases q:l.length - 1=i
  ·subst q;rw [bf (by simp; omega),af ⟨by omega,hk⟩];rfl
  ·rw [aU q,ag (by rintro ⟨q,_⟩; omega)];simp [hi]
 ·rw [ag (by simp; exact hk)];simp only [bsm]
  congr 1
  refine gL (by simp) fun i hi=>?_;unfold tU;by_cases q:l.length - 1=i
  ·subst q;rw [ag (by rintro ⟨_,q⟩; exact hk q)];simp [hi]
  ·rw [ag (by rintro ⟨q,_⟩; omega)];simp [hi]
def tt (l:List aa) (c n:Nat):List aa:=tr (tr l c) (c+n)
theorem zw (l:List aa) (c n:Nat):(tt l c n).length=l.length:=by simp [tt,ph]
def dlx (l:List aa) (c n j:Nat):aa:=if j < c then (tt l c n).getD j bl else if j+n < l.length then (tt l c n).getD (j+n) bl else bl
def vd (l:List aa) (c n:Nat):List aa:=(List.range l.length).map (dlx l c n)
theorem oa (l:List aa) (c n:Nat):(vd l c n).length=l.length:=by simp [vd]
theorem yL {c n j:Nat} (h:j < l.length):(vd l c n)[j]? = some (dlx l c n j):=by simp [vd,h]
theorem qg (l:List aa) (c n j:Nat) (h:j < l.length):kd (vd l c n) j=if j < c then kd (tt l c n) j else if j+n < l.length then kd (tt l c n) (j+n) else 0:=by
 rw [show kd (vd l c n) j=(dlx l c n j).Kind by simp [kd,yL h]];unfold dlx;split
 ·exact mz _ _
 ·split
  ·exact mz _ _
  ·rfl
theorem yK (hs:Snd l) (c n:Nat):Snd (vd l c n):=fun j hj=>by
 have hj':j < l.length:=by rw [oa] at hj; exact hj
 have he:(vd l c n)[j]=dlx l c n j:=by
  have:=yL (c:=c) (n:=n) hj';rw [ab hj] at this;exact aq this
 have ht:Snd (tt l c n):=wI (wI hs c) (c+n);have hlen:=zw l c n;have hat1:kd (tt l c n) c≠3:=by
  unfold tt;rw [AB];split
  ·decide
  ·exact uP l c
 have hat2:kd (tt l c n) (c+n)≠3:=uP _ _;rw [←iP hj,he];refine ⟨?_,?_,?_⟩
 ·unfold dlx;split
  ·exact rC ht j
  ·split
   ·exact rC ht _
   ·rfl
 ·intro e;rw [qg l c n j hj'] at e;split at e
  ·have h3:=ht.two e;have hlt:=tH (l:=tt l c n) (j:=j+1) (by omega);rw [qg l c n (j+1) (by omega),af]
   ·exact h3
   ·rcases aL (j+1) c with q | q
    ·exact q
    ·obtain rfl:c=j+1:=by omega
     exact absurd h3 hat1
  ·split at e
   ·have h3:=ht.two e;have hlt:=tH (l:=tt l c n) (j:=j+n+1) (by omega);rw [qg l c n (j+1) (by omega),ag (by omega),af (by omega),show j+1+n=j+n+1 by omega];exact h3
   ·omega
 ·intro e;rw [qg l c n j hj'] at e;split at e
  ·obtain ⟨h0,h2⟩:=ht.three e;refine ⟨h0,?_⟩;rw [qg l c n (j - 1) (by omega),af (by omega)];exact h2
  ·split at e
   ·obtain ⟨h0,h2⟩:=ht.three e;have hne:j≠c:=by
     intro q;rw [q] at e;exact hat2 e
    refine ⟨by omega,?_⟩;rw [qg l c n (j - 1) (by omega),ag (by omega),af (by omega),show j - 1+n=j+n - 1 by omega];exact h2
   ·omega
theorem Gb (hs:Snd l) (hl:l.length≤1024) {c n:Nat} (hc:c < l.length) (h1:1≤n) (hn:c+n≤l.length):il (tr l c) n c=some (vd l c n):=by
 unfold il;have htl:=zw l c n;have e1:w64 ((c:Int)+(n:Int))=((c+n:Nat):Int):=by rw [aN (by omega)]; simp
 rw [e1,wK (wI hs c) (by rw [ph]; exact hl)];simp only [bsm];rw [show tr (tr l c) (c+n)=tt l c n by rfl];have hd:iR (tt l c n) c ((c+n:Nat):Int)=some ((tt l c n).take c++(tt l c n).drop (c+n)):=by
  unfold iR;rw [af (by rw [htl]; omega),aZ,aZ]
 rw [hd,rd,show (max 0 (min (n:Int) 1024)).toNat=n by omega];simp only [bsm];rw [cY (by simp [htl]; omega)];simp only [bsm]
 congr 1
 refine gL (by simp [htl]; omega) fun i hi=>?_;unfold dlx;have htk:((tt l c n).take c).length=c:=by simp [htl]; omega
 rw [aI];split
 ·rename_i q
  rw [aB (by omega),aP,af q,av,ab (by omega:i < (tt l c n).length)];rfl
 ·rename_i q
  rw [aG (by omega),htk];split
  ·rw [aB (by simp [htl]; omega),bM,show c+n+(i - c)=i+n by omega,av,ab (by omega:i+n < (tt l c n).length)];rfl
  ·rw [aG (by simp [htl]; omega),mx,af (by simp [htl]; omega)]
theorem yh (h:p.length=l.length):pl l 0 p=p:=by
 symm
 refine gL h fun i hi=>?_;unfold pc;rw [af ⟨db _,by omega⟩,zo,av,ab (by omega)];rfl
theorem yg (h1:1≤l.length):pw l w 0 l.length=false:=by
 unfold pw tch;rw [show decide (0 < l.length)=true by simp; omega,show decide (0≤l.length - 1)=true by simp,show decide (l.length - 1 < 0+l.length)=true by simp; omega];simp
def mvs (col n:Int) (m:Nat):Bool:=decide (0≤col) && decide (col < (m:Int)) && decide (1≤n)
def ish (l:List aa) (w:Bool) (col n:Int):bc:=if mvs col n l.length=true then ⟨uV l col.toNat (min n ((l.length:Int) - col)).toNat,false⟩ else ⟨l,w⟩
def dsh (l:List aa) (w:Bool) (col n:Int):bc:=if mvs col n l.length=true then ⟨vd l col.toNat (min n ((l.length:Int) - col)).toNat,false⟩ else ⟨l,w⟩
theorem Eu (hs:Snd l) (col n:Int):Snd (ish l w col n).cells:=by
 unfold ish;split
 ·exact yy hs _ _
 ·exact hs
theorem EI (hs:Snd l) (col n:Int):Snd (dsh l w col n).cells:=by
 unfold dsh;split
 ·exact yK hs _ _
 ·exact hs
theorem Ev (col n:Int):(ish l w col n).cells.length=l.length:=by
 unfold ish;split
 ·exact nP _ _ _
 ·rfl
theorem EJ (col n:Int):(dsh l w col n).cells.length=l.length:=by
 unfold dsh;split
 ·exact oa _ _ _
 ·rfl
theorem um {col n:Int} {m:Nat}:(decide (col < 0) || decide (col≥(m:Int)) || decide (n < 1))= !mvs col n m:=by
 rw [cG];simp only [mvs,aF,em,ug,an,gp];omega
theorem xb {col n:Int} {m:Nat} (h:mvs col n m=true):∃c e:Nat,col=(c:Int)∧min n ((m:Int) - col)=(e:Int)∧c < m∧1≤e∧c+e≤m:=by
 simp only [mvs,aw,an] at h;exact ⟨col.toNat,(min n ((m:Int) - col)).toNat,by omega,by omega,by omega,by omega,by omega⟩
theorem A4 (h:s.row_Row[k]? = some ⟨l,w⟩) (hs:Snd l) (hl:l.length≤1024) (col n:Int):ju s (some k) col n=some (s.sr k (ish l w col n)):=by
 unfold ju dJ;simp only [ig h,bsm,bQ,um];unfold ish;by_cases hm:mvs col n l.length=true
 ·obtain ⟨c,e,rfl,he,h1,h2,h3⟩:=xb hm;rw [ag (by rw [hm]; decide),af hm,qf h (by omega) hs.sht];simp only [bsm,wK hs hl];have e1:aO n (w64 ((l.length:Int) - (c:Int)))=(e:Int):=by rw [aN (by omega),dF]; exact he
  rw [e1,FW hl h1 h2 h3,he];simp only [bsm,aZ];have:=nL h hs hl (yy hs c e) (a:=0) (by rw [nP]; omega) (by rw [nP]; omega);rw [show ((0:Nat):Int)=0 by rfl] at this;rw [this,yh (nP l c e),nP,yg (by omega)];rfl
 ·rw [af (by simpa using hm),ag hm,xR h];rfl
theorem A5 (h:s.row_Row[k]? = some ⟨l,w⟩) (hs:Snd l) (hl:l.length≤1024) (col n:Int):jv s (some k) col n=some (s.sr k (dsh l w col n)):=by
 unfold jv dK;simp only [ig h,bsm,bQ,um];unfold dsh;by_cases hm:mvs col n l.length=true
 ·obtain ⟨c,e,rfl,he,h1,h2,h3⟩:=xb hm;rw [ag (by rw [hm]; decide),af hm,qf h (by omega) hs.sht];simp only [bsm,wK hs hl];have e1:aO n (w64 ((l.length:Int) - (c:Int)))=(e:Int):=by rw [aN (by omega),dF]; exact he
  rw [e1,Gb hs hl h1 h2 h3,he];simp only [bsm,aZ];have:=nL h hs hl (yK hs c e) (a:=0) (by rw [oa]; omega) (by rw [oa]; omega);rw [show ((0:Nat):Int)=0 by rfl] at this;rw [this,yh (oa l c e),oa,yg (by omega)];rfl
 ·rw [af (by simpa using hm),ag hm,xR h];rfl
theorem D0 (hl:l.length≤1024) (col n:Int) (w:Bool):iJ l col n=some ((ish l w col n).cells,mvs col n l.length):=by
 unfold iJ;simp only [bsm,bQ,um];unfold ish;by_cases hm:mvs col n l.length=true
 ·rw [hm];obtain ⟨c,e,rfl,he,h1,h2,h3⟩:=xb hm;have e1:aO n (w64 ((l.length:Int) - (c:Int)))=(e:Int):=by rw [aN (by omega),dF]; exact he
  rw [ag (by decide),af rfl,wJ hl,e1,he];simp only [bsm,aZ];refine xC (uQ (n:=l.length) (tU l c e) (t:=uV l c e) (fun i hi=>?_) ?_ (by omega)) rfl
  ·have e2:w64 ((c:Int)+(e:Int))=((c+e:Nat):Int):=by rw [aN (by omega)]; simp
   simp only [dlt hi,bF,dL hi (by omega),e2,aV,bsm];have htl:=ph l c;have hx:((if decide ((i:Int) < (c:Int))=true then (idx (tr l c) (i:Int)).bind fun x=>(some (x.Kind,x.Text):Option (Int×(List Int))) else (some (0,([]:List Int)):Option (Int×(List Int)))).bind fun z=>
     if decide ((i:Int)≥((c+e:Nat):Int))=true then (idx (tr l c) (w64 ((i:Int) - (e:Int)))).bind fun x=>(some (x.Kind,x.Text):Option (Int×(List Int))) else (some (z.1,z.2):Option (Int×(List Int))))=some ((inx l c e i).Kind,(inx l c e i).Text):=by
    unfold inx;by_cases q1:i < c
    ·rw [af (by simp; omega),bp (by omega:i < (tr l c).length)];simp only [bsm];rw [ag (by simp; omega),af q1,av,ab (by omega:i < (tr l c).length)];rfl
    ·rw [ag (by simp; omega),ag q1];simp only [bsm];by_cases q2:i < c+e
     ·rw [ag (by simp; omega),af q2];rfl
     ·have e3:w64 ((i:Int) - (e:Int))=((i - e:Nat):Int):=by rw [aN (by omega)]; omega
      rw [af (by simp; omega),ag q2,e3,bp (by omega:i - e < (tr l c).length),av,ab (by omega:i - e < (tr l c).length)];rfl
   refine (HR _ _ _).symm.trans ?_;rw [hx];simp only [bsm];have hy:(if (((i+1:Nat):Int)==(l.length:Int) && (inx l c e i).Kind==2)=true then (some (0,([]:List Int)):Option (Int×(List Int))) else (some ((inx l c e i).Kind,(inx l c e i).Text):Option (Int×(List Int))))=some ((tU l c e i).Kind,(tU l c e i).Text):=by
    unfold tU;by_cases q:i+1=l.length∧(inx l c e i).Kind=2
    ·rw [af (by simp only [aw,aX]; omega),af q];rfl
    ·rw [ag (by simp only [aw,aX]; omega),ag q]
   rw [hy];simp only [bsm];rw [cY (by simp; omega)];rfl
  ·simp only [dnl];rfl
 ·rw [af (by simpa using hm),ag hm];simp only [H3] at hm;rw [hm]
theorem D1 (hl:l.length≤1024) (col n:Int) (w:Bool):iK l col n=some ((dsh l w col n).cells,mvs col n l.length):=by
 unfold iK;simp only [bsm,bQ,um];unfold dsh;by_cases hm:mvs col n l.length=true
 ·rw [hm];obtain ⟨c,e,rfl,he,h1,h2,h3⟩:=xb hm;have e1:aO n (w64 ((l.length:Int) - (c:Int)))=(e:Int):=by rw [aN (by omega),dF]; exact he
  have e2:w64 ((c:Int)+(e:Int))=((c+e:Nat):Int):=by rw [aN (by omega)]; simp
  rw [ag (by decide),af rfl,wJ hl,e1,he];simp only [bsm,aZ,e2];rw [wJ (by rw [ph]; exact hl)];simp only [bsm];rw [show tr (tr l c) (c+e)=tt l c e by rfl];refine xC (uQ (n:=l.length) (dlx l c e) (t:=vd l c e) (fun i hi=>?_) ?_ (by omega)) rfl
  ·have htl:=zw l c e;have e3:w64 ((i:Int)+(e:Int))=((i+e:Nat):Int):=by rw [aN (by omega)]; simp
   simp only [dlt hi,bF,dL hi (by omega),e3];have hx:(if decide ((i:Int) < (c:Int))=true then (idx (tt l c e) (i:Int)).bind fun x=>(some (x.Kind,x.Text):Option (Int×(List Int))) else if decide (((i+e:Nat):Int) < (l.length:Int))=true then (idx (tt l c e) ((i+e:Nat):Int)).bind fun x=>(some (x.Kind,x.Text):Option (Int×(List Int))) else (some (0,([]:List Int)):Option (Int×(List Int))))=some ((dlx l c e i).Kind,(dlx l c e i).Text):=by
    unfold dlx;by_cases q1:i < c
    ·rw [af (by simp; omega),bp (by omega:i < (tt l c e).length),af q1,av,ab (by omega:i < (tt l c e).length)];rfl
    ·rw [ag (by simp; omega),ag q1];by_cases q2:i+e < l.length
     ·rw [af (by simp only [an]; omega),af q2,bp (by omega:i+e < (tt l c e).length),av,ab (by omega:i+e < (tt l c e).length)];rfl
     ·rw [ag (by simp only [an]; omega),ag q2];rfl
   rw [hx];simp only [bsm];rw [cY (by simp; omega)];rfl
  ·simp only [dnl];rfl
 ·rw [af (by simpa using hm),ag hm];simp only [H3] at hm;rw [hm]
end Go.Proofs.YtidapncdmjppeaaGreatDoor
namespace Go.Proofs.YtidapncdmjppeaaGreatDoor
open Go Go.Lt
variable {s C:Sto} {g k W:Nat} {ks:List Nat} {q:ae}
def w38 (o:bv):Int:=if o.Kind < 2∨12 < o.Kind then 5 else if (o.Kind=3∨o.Kind=4)∧(o.A < 0∨2 < o.A) then 3 else 0
def e38 (o:bv):Er:=if w38 o=5 then .sent 3 else if w38 o=3 then .sent 7 else .nil
theorem Fh (o:bv):w38 o=5∨w38 o=3∨w38 o=0:=by
  unfold w38
  repeat' split
  all_goals simp
def BD (n:Int):Bool:=decide (2≤n) && decide (n≤12)
theorem BC (n:Int):lZ n=some (BD n):=by
  unfold lZ BD;simp only [aV,bsm,zL]
theorem G3 (o:bv):BD o.Kind=(w38 o != 5):=by
  rw [cG];unfold BD w38;simp only [aw,an,nH,CI]
  repeat' split
  all_goals omega
theorem uZ (o:bv):jP o=some (e38 o):=by
  unfold jP;rw [BC];have hd:BD o.Kind= !decide (o.Kind < 2∨12 < o.Kind):=by
    rw [cG];simp only [BD,aw,an,em,gp];omega
  simp only [bsm,hd,aV,bQ,Bool.not_not];unfold e38;by_cases h:o.Kind < 2∨12 < o.Kind
  · have e:w38 o=5:=by unfold w38; rw [af h]
    rw [af (by simpa using h),af e]
  · rw [ag (by simpa using h)]
    by_cases h2:(o.Kind=3∨o.Kind=4)∧(o.A < 0∨2 < o.A)
    · have e:w38 o=3:=by unfold w38; rw [ag h,af h2]
      rw [af (by simp only [aw,aF,an,nH,CI]; omega),e];rfl
    · have e:w38 o=0:=by unfold w38; rw [ag h,ag h2]
      rw [ag (by simp only [aw,aF,an,nH,CI]; omega),e];rfl
theorem AL (o:bv):(e38 o).isNil=(w38 o==0):=by
  unfold e38;rcases Fh o with h | h | h <;> rw [h] <;> rfl
def lt (r:bc):ah:=⟨r.cells,r.wrap⟩
theorem DH (h:Pv C s k g W q ks) {i:Nat} (hi:i < ks.length) (x a b:Int):dp q i x a b=some ⟨q.L.set i (lt (ac (q.L.getD i dl).Cells (q.L.getD i dl).Wrap x a b)),q.At,q.Auto⟩:=by
  have hl:=h.len;have hlt:i < q.L.length:=by omega
  have hok:=h.ok _ (aJ hlt);have w2:=h.g.w2;unfold dp;rw [bp hlt];simp only [bsm];rw [D2 _ _ (by rw [hok.2]; exact w2)];simp only [bsm];rw [rE h hi,gdl hlt];rfl
theorem Pv.ac (h:Pv C s k g W q ks) {i:Nat} (hi:i < ks.length) (x a b:Int):Pv C (s.sr ks[i] (ac (q.L.getD i dl).Cells (q.L.getD i dl).Wrap x a b)) k g W ⟨q.L.set i (lt (Go.Proofs.YtidapncdmjppeaaGreatDoor.ac (q.L.getD i dl).Cells (q.L.getD i dl).Wrap x a b)),q.At,q.Auto⟩ ks:=by
  have hl:=h.len;have hlt:i < q.L.length:=by omega
  have hok:=h.ok _ (aJ hlt);have e:q.L.getD i dl=q.L[i]:=gdl hlt;rw [e];exact h.row hi (Gq hok.1 x a b) (by rw [Gs]; exact hok.2)
theorem Pv.rw_ (h:Pv C s k g W q ks) {i:Nat} (hi:i < ks.length):s.row_Row[ks[i]]? = some ⟨(q.L.getD i dl).Cells,(q.L.getD i dl).Wrap⟩∧Snd (q.L.getD i dl).Cells∧(q.L.getD i dl).Cells.length=W:=by
  have hl:=h.len;have hlt:i < q.L.length:=by omega
  have hok:=h.ok _ (aJ hlt);obtain ⟨r,h1,h2,h3⟩:=h.g.at hi;have e:q.L[i]=⟨r.cells,r.wrap⟩:=by rw [h.at hi,mG h1]
  rw [gdl hlt,e];exact ⟨h1,h2,h3⟩
def md (mode:Int):Int:=if mode=0 then 2 else if mode=1 then 1 else 3
theorem wC (h:Pv C s k g W q ks) {i:Nat} (hi:i < ks.length) (hr:q.At.Row=(i:Int)) (mode:Int):kF s (some k) mode=some (s.sr ks[i] (ac (q.L.getD i dl).Cells (q.L.getD i dl).Wrap (md mode) q.At.Col 0)):=by
  obtain ⟨r1,r2,r3⟩:=h.rw_ hi;have w2:=h.g.w2;unfold kF md;simp only [bsm,h.p,hr];rw [eu h.g hi];simp only [bsm];by_cases h0:mode=0
  · rw [af (by simpa using h0),af h0,yG r1 r2 (by omega) _ 0]
    rfl
  · rw [ag (by simpa using h0),ag h0]
    by_cases h1:mode=1
    · rw [af (by simpa using h1),af h1,zP r1 r2 (by omega) _ 0]
      rfl
    · rw [ag (by simpa using h1),ag h1,wB r1 r2 (by omega) q.At.Col 0]
      rfl
def eS (cond:Nat→Bool) (L:List ah):Nat→List ah
  | 0=>L
  | i+1=>if cond i=true then (eS cond L i).set i (lt (ac ((eS cond L i).getD i dl).Cells ((eS cond L i).getD i dl).Wrap 3 0 0)) else eS cond L i
def cnd (mode:Int) (row:Int) (i:Nat):Bool:=mode==2 || (mode==0 && decide ((i:Int) > row)) || (mode==1 && decide ((i:Int) < row))
theorem xZ (h:Pv C s k g W q ks) (mode:Int) {H:Int} (hH:H=(ks.length:Int)):∃s',(cO (σ:=Int×Sto) (τ:=Sto) ((H - 0).toNat+1) (fun s_12=>
 if (decide (s_12.1 < H))=true then
 ((orE (mode==2) ((bL (mode==0) ((s_12.2.place_Pen[k]?).bind fun o_32=>
 some (decide (s_12.1 > o_32.At.Row)))).bind fun d_25=>
 some d_25)).bind fun d_21=>
 (orE d_21 ((bL (mode==1) ((s_12.2.place_Pen[k]?).bind fun o_45=>
 some (decide (s_12.1 < o_45.At.Row)))).bind fun d_38=>
 some d_38)).bind fun d_34=>
 if d_34=true then
 (s_12.2.place_Pen[k]?).bind fun o_51=>
 (bq s_12.2 o_51.G s_12.1).bind fun x_53=>
 (jA s_12.2 x_53).bind fun x_54=>
 (some (x_54):Option (Sto))
 else
 (some (s_12.2):Option (Sto))).bind fun z_15=>
 some (.inl ((w64 (s_12.1+1)),z_15))
 else
 some (.inr (s_12.2))) (0,s))=some s'∧Pv C s' k g W ⟨eS (cnd mode q.At.Row) q.L ks.length,q.At,q.Auto⟩ ks:=by
  subst hH;have hh:=h.g.h2;refine dY (n:=ks.length) (fun i st=>st.1=(i:Int)∧Pv C st.2 k g W ⟨eS (cnd mode q.At.Row) q.L i,q.At,q.Auto⟩ ks) (fun st=>Pv C st k g W ⟨eS (cnd mode q.At.Row) q.L ks.length,q.At,q.Auto⟩ ks) (fun i st hi hI=>?_) (fun st hI=>?_) ⟨rfl,h⟩ (by omega)
  · obtain ⟨i',st⟩:=st
    obtain ⟨e,v⟩:=hI;simp only at e v;subst e;simp only;rw [af (dlt hi)];have hp:=v.p;simp only at hp;simp only [hp,bsm,aV,bQ];rw [dL hi (by omega)];by_cases hc:cnd mode q.At.Row i=true
    · rw [af (show (mode==2 || mode==0 && decide ((i:Int) > q.At.Row) || mode==1 && decide ((i:Int) < q.At.Row))=true from hc),eu v.g hi]
      obtain ⟨r1,r2,r3⟩:=v.rw_ hi;simp only [bsm];have w2:=h.g.w2;rw [wB r1 r2 (by omega) 0 0];refine .inl ⟨_,rfl,rfl,?_⟩;simp only [eS];rw [af hc];exact v.ac hi 3 0 0
    · rw [ag (show ¬(mode==2 || mode==0 && decide ((i:Int) > q.At.Row) || mode==1 && decide ((i:Int) < q.At.Row))=true from hc)]
      refine .inl ⟨_,rfl,rfl,?_⟩;simp only [eS];rw [ag hc];exact v
  · obtain ⟨i',st⟩:=st
    obtain ⟨e,v⟩:=hI;simp only at e v;subst e;exact ⟨st,by simp,v⟩
theorem zJ (h:Pv C s k g W q ks) (kind mode:Int):(cO (σ:=Int×(List ah)×Int×Int×Bool×Bool) (τ:=((List ah)×Int×Int×Bool×Bool)) (((q.L.length:Int) - 0).toNat+1) (fun s_23=>
 (bL (decide (s_23.1 < (s_23.2.1.length:Int))) (some (kind==4))).bind fun d_29=>
 if d_29=true then
 ((orE (mode==2) ((bL (mode==0) (some (decide (s_23.1 > s_23.2.2.1)))).bind fun d_41=>
 some d_41)).bind fun d_37=>
 (orE d_37 ((bL (mode==1) (some (decide (s_23.1 < s_23.2.2.1)))).bind fun d_52=>
 some d_52)).bind fun d_48=>
 if d_48=true then
 (dp (⟨s_23.2.1,(⟨s_23.2.2.1,s_23.2.2.2.1,s_23.2.2.2.2.1⟩:ai),s_23.2.2.2.2.2⟩:ae) s_23.1 3 0 0).bind fun x_62=>
 (some (x_62.L,x_62.At.Row,x_62.At.Col,x_62.At.Pending,x_62.Auto):Option ((List ah)×Int×Int×Bool×Bool))
 else
 (some (s_23.2.1,s_23.2.2.1,s_23.2.2.2.1,s_23.2.2.2.2.1,s_23.2.2.2.2.2):Option ((List ah)×Int×Int×Bool×Bool))).bind fun z_34=>
 some (.inl ((w64 (s_23.1+1)),z_34.1,z_34.2.1,z_34.2.2.1,z_34.2.2.2.1,z_34.2.2.2.2))
 else
 some (.inr (s_23.2.1,s_23.2.2.1,s_23.2.2.2.1,s_23.2.2.2.2.1,s_23.2.2.2.2.2))) (0,q.L,q.At.Row,q.At.Col,q.At.Pending,q.Auto))=
    some (if kind=4 then eS (cnd mode q.At.Row) q.L ks.length else q.L,q.At.Row,q.At.Col,q.At.Pending,q.Auto):=by
  have hh:=h.g.h2;have hl:=h.len;by_cases hk:kind=4
  · subst hk
    rw [af rfl];obtain ⟨t,h1,h2⟩:=dY (σ:=Int×(List ah)×Int×Int×Bool×Bool) (τ:=((List ah)×Int×Int×Bool×Bool)) (n:=ks.length) (fuel:=((q.L.length:Int) - 0).toNat+1) (s:=(0,q.L,q.At.Row,q.At.Col,q.At.Pending,q.Auto))
      (fun i st=>st=((i:Int),eS (cnd mode q.At.Row) q.L i,q.At.Row,q.At.Col,q.At.Pending,q.Auto)∧∃s',Pv C s' k g W ⟨eS (cnd mode q.At.Row) q.L i,q.At,q.Auto⟩ ks) (fun t=>t=(eS (cnd mode q.At.Row) q.L ks.length,q.At.Row,q.At.Col,q.At.Pending,q.Auto))
      (step:=fun s_23=>
 (bL (decide (s_23.1 < (s_23.2.1.length:Int))) (some ((4:Int)==4))).bind fun d_29=>
 if d_29=true then
 ((orE (mode==2) ((bL (mode==0) (some (decide (s_23.1 > s_23.2.2.1)))).bind fun d_41=>
 some d_41)).bind fun d_37=>
 (orE d_37 ((bL (mode==1) (some (decide (s_23.1 < s_23.2.2.1)))).bind fun d_52=>
 some d_52)).bind fun d_48=>
 if d_48=true then
 (dp (⟨s_23.2.1,(⟨s_23.2.2.1,s_23.2.2.2.1,s_23.2.2.2.2.1⟩:ai),s_23.2.2.2.2.2⟩:ae) s_23.1 3 0 0).bind fun x_62=>
 (some (x_62.L,x_62.At.Row,x_62.At.Col,x_62.At.Pending,x_62.Auto):Option ((List ah)×Int×Int×Bool×Bool))
 else
 (some (s_23.2.1,s_23.2.2.1,s_23.2.2.2.1,s_23.2.2.2.2.1,s_23.2.2.2.2.2):Option ((List ah)×Int×Int×Bool×Bool))).bind fun z_34=>
 some (.inl ((w64 (s_23.1+1)),z_34.1,z_34.2.1,z_34.2.2.1,z_34.2.2.2.1,z_34.2.2.2.2))
 else
 some (.inr (s_23.2.1,s_23.2.2.1,s_23.2.2.2.1,s_23.2.2.2.2.1,s_23.2.2.2.2.2)))
      (fun i st hi hI=>by
        obtain ⟨rfl,s',v⟩:=hI;have hvl:(eS (cnd mode q.At.Row) q.L i).length=ks.length:=v.len;simp only [aV,bsm,bQ];rw [af (by simp [hvl,hi]),dL hi (by omega)];by_cases hc:cnd mode q.At.Row i=true
        · rw [af (show (mode==2 || mode==0 && decide ((i:Int) > q.At.Row) || mode==1 && decide ((i:Int) < q.At.Row))=true from hc)]
          have ha:=DH v hi 3 0 0;rw [show (⟨eS (cnd mode q.At.Row) q.L i,⟨q.At.Row,q.At.Col,q.At.Pending⟩,q.Auto⟩:ae)=⟨eS (cnd mode q.At.Row) q.L i,q.At,q.Auto⟩ from rfl,ha];refine .inl ⟨_,rfl,?_,s'.sr ks[i] (ac ((eS (cnd mode q.At.Row) q.L i).getD i dl).Cells ((eS (cnd mode q.At.Row) q.L i).getD i dl).Wrap 3 0 0),?_⟩
          · simp only [eS]
            rw [af hc]
          · simp only [eS]
            rw [af hc];exact v.ac hi 3 0 0
        · rw [ag (show ¬(mode==2 || mode==0 && decide ((i:Int) > q.At.Row) || mode==1 && decide ((i:Int) < q.At.Row))=true from hc)]
          refine .inl ⟨_,rfl,?_,s',?_⟩
          · simp only [eS]
            rw [ag hc]
          · simp only [eS]
            rw [ag hc];exact v)
      (fun st hI=>by
        obtain ⟨rfl,s',v⟩:=hI;have hvl:(eS (cnd mode q.At.Row) q.L ks.length).length=ks.length:=v.len;refine ⟨_,?_,rfl⟩;simp only [aV,bsm];rw [ag (by simp [hvl])])
      ⟨rfl,s,h⟩ (by omega)
    rw [h1,h2]
  · rw [ag hk]
    have hf:(kind==4)=false:=by simpa using hk
    rw [show ((q.L.length:Int) - 0).toNat+1=q.L.length+1 by omega];simp only [cO,hf,aV,vF,bsm,ak,aY]
theorem B1 (h:Pv C s k g W q ks) {i:Nat} (hi:i < ks.length) {c:List aa} {done:Bool} {r:bc} (hc:c=r.cells) (hd:done=true→r.wrap=false) (hn:done=false→r=⟨(q.L.getD i dl).Cells,(q.L.getD i dl).Wrap⟩) {z:ae} (hz:z=q):
    (if done=true then (cz z i ⟨c,false⟩).bind fun x_172=>(some (x_172.L,x_172.At.Row,x_172.At.Col,x_172.At.Pending,x_172.Auto):Option ((List ah)×Int×Int×Bool×Bool))
     else (some (z.L,z.At.Row,z.At.Col,z.At.Pending,z.Auto):Option ((List ah)×Int×Int×Bool×Bool)))=some (q.L.set i (lt r),q.At.Row,q.At.Col,q.At.Pending,q.Auto):=by
  subst hz hc;have hl:=h.len
  cases done with
  | true=>
    rw [af rfl,rE h hi];simp only [bsm];unfold lt;rw [hd rfl]
  | false=>
    rw [ag (by simp),hn rfl];unfold lt;rw [gdl (show i < z.L.length by omega),GA]
theorem CY {l:List aa} {w:Bool} {a b:Int}:(mvs a b l.length=true→(ish l w a b).wrap=false)∧(mvs a b l.length=false→ish l w a b=⟨l,w⟩):=by
  unfold ish;refine ⟨fun h=>by rw [af h],fun h=>by rw [ag (by rw [h]; simp)]⟩
theorem Db {l:List aa} {w:Bool} {a b:Int}:(mvs a b l.length=true→(dsh l w a b).wrap=false)∧(mvs a b l.length=false→dsh l w a b=⟨l,w⟩):=by
  unfold dsh;refine ⟨fun h=>by rw [af h],fun h=>by rw [ag (by rw [h]; simp)]⟩
theorem AA (h:Pv C s k g W q ks) {i:Nat} (hi:i < ks.length) (hr:q.At.Row=(i:Int)) (kind:Int) {mode:Int} (hm:0≤mode∧mode≤2):∃L1,L1=q.L.set i (lt (ac (q.L.getD i dl).Cells (q.L.getD i dl).Wrap (md mode) q.At.Col 0))∧
    jj q kind mode=some ⟨if kind=4 then eS (cnd mode q.At.Row) L1 ks.length else L1,q.At,q.Auto⟩:=by
  refine ⟨_,rfl,?_⟩;unfold jj;have hidx:idx ([2,1,3]:List Int) mode=some (md mode):=by
    have:mode=0∨mode=1∨mode=2:=by omega
    rcases this with e | e | e <;> rw [e] <;> rfl
  have v:=h.ac hi (md mode) q.At.Col 0;have e0:dp q q.At.Row (md mode) q.At.Col 0=some ⟨q.L.set i (lt (ac (q.L.getD i dl).Cells (q.L.getD i dl).Wrap (md mode) q.At.Col 0)),q.At,q.Auto⟩:=by
    rw [hr];exact DH h hi _ _ _
  rw [hidx];simp only [bsm];rw [e0];simp only [bsm];have:=zJ v kind mode;simp only at this;rw [this];rfl
theorem EF (h:Pv C s k g W q ks) (o:bv) (hw:w38 o=0):∃s' q' ks',nV s (some k) o=some (s',Er.nil)∧kv q o=some q'∧Pv C s' k g W q' ks'∧ks'.length=ks.length∧Hd q'.At W ks.length∧q'.At.Pending=false:=by
  have hh:=h.g.h2;have h1:=h.g.h1;have w1:=h.g.w1;have w2:=h.g.w2;have hkind:2≤o.Kind∧o.Kind≤12:=by
    unfold w38 at hw;split at hw
    · cases hw
    · omega
  have hmode:(o.Kind=3∨o.Kind=4)→0≤o.A∧o.A≤2:=fun e=>by
    unfold w38 at hw;rw [ag (by omega)] at hw;split at hw
    · cases hw
    · omega
  have hnil:e38 o=Er.nil:=by unfold e38; rw [hw]; rfl
  have hd0:=rN q.At w1 h1;have hv:Pv C (s.sp k ⟨some g,⟨(hc q.At W ks.length).Row,(hc q.At W ks.length).Col,false⟩,q.Auto⟩) k g W ⟨q.L,⟨(hc q.At W ks.length).Row,(hc q.At W ks.length).Col,false⟩,q.Auto⟩ ks:=h.set _ _;have hd:Hd ⟨(hc q.At W ks.length).Row,(hc q.At W ks.length).Col,false⟩ W ks.length:=⟨hd0.rr,hd0.cc,fun e=>by cases e⟩;unfold nV kv;rw [uZ,hnil,nN h];simp only [bsm,Er.isNil,cW,ak,aY,bG,fM,h.p];rw [ii h.g,dZ h.g];simp only [bsm];rw [oe _ w1 w2 h1 hh];simp only [bsm];rw [gF (cD h.p)];simp only [bsm];rw [gF (by simp [Sto.sp]; exact cD h.p),wh];simp only [bsm];generalize hc q.At W ks.length=c at *;obtain ⟨i,hi⟩:∃i:Nat,c.Row=(i:Int):=⟨c.Row.toNat,by have:=hd.rr; simp only at this; omega⟩;have hik:i < ks.length:=by have:=hd.rr; simp only at this; omega
  have hlen:=hv.len;simp only at hlen;obtain ⟨c1,c2,c3⟩:=c;simp only at hi hv hd;subst hi;simp only;rw [bp (show i < q.L.length by omega)];simp only [bsm];generalize s.sp k ⟨some g,⟨(i:Int),c2,false⟩,q.Auto⟩=s1 at *;obtain ⟨L,⟨_,_,_⟩,au⟩:=q;simp only at hv hlen⊢;obtain ⟨r1,r2,r3⟩:=hv.rw_ hik;simp only at r1 r2 r3;obtain ⟨kd_,A,B,bs⟩:=o;simp only at hkind hmode⊢;have hcell:L[i]'(by omega)=L.getD i dl:=(gdl (by omega)).symm;rw [hcell];have:kd_=2∨kd_=3∨kd_=4∨kd_=5∨kd_=6∨kd_=7∨kd_=8∨kd_=9∨kd_=10∨kd_=11∨kd_=12:=by omega
  have hcc:=hd.cc;simp only at hcc;rcases this with e | e | e | e | e | e | e | e | e | e | e <;> subst e <;> simp only [Int.reduceBEq,ak,aY,bF,bsm]
  ·
    unfold eY;simp only [bsm,hv.p];rw [eu hv.g hik];simp only [bsm,Int.reduceBEq,bF];rw [ii hv.g,dZ hv.g];simp only [bsm];unfold gN;rw [oe _ w1 w2 h1 hh,rF hv,hlen];simp only [bsm];rw [yf _ w1 w2 h1 hh,gF (cD hv.p)];exact ⟨_,_,ks,rfl,rfl,hv.set (hc ⟨A,B,false⟩ W ks.length) au,rfl,rN _ w1 h1,by simp [hc]⟩
  ·
    have hm:=hmode (.inl rfl);obtain ⟨L1,e1,e2⟩:=AA hv hik rfl 3 hm;simp only at e1;rw [e2];unfold eY;simp only [bsm,hv.p];rw [eu hv.g hik];simp only [bsm,Int.reduceBEq,ak,aY,bF];rw [wC hv hik rfl A];refine ⟨_,_,ks,rfl,rfl,?_,rfl,hd,rfl⟩;have:=hv.ac hik (md A) c2 0;simp only at this;rw [ag (by decide),e1];exact this
  ·
    have hm:=hmode (.inr rfl);obtain ⟨L1,e1,e2⟩:=AA hv hik rfl 4 hm;simp only at e1;rw [e2];unfold eY;simp only [bsm,hv.p];rw [eu hv.g hik];simp only [bsm,Int.reduceBEq,ak,aY,bF];unfold lP;rw [wC hv hik rfl A];have hv2:=hv.ac hik (md A) c2 0;simp only at hv2;rw [←e1] at hv2;simp only [bsm,hv2.p];rw [dZ hv2.g];simp only [bsm];obtain ⟨s',l1,l2⟩:=xZ hv2 A rfl;rw [l1];exact ⟨_,_,ks,rfl,rfl,l2,rfl,hd,rfl⟩
  ·
    unfold eY;simp only [bsm,hv.p];rw [eu hv.g hik];simp only [bsm,Int.reduceBEq,ak,aY,bF];rw [yH r1 r2 (by omega),DH hv hik];exact ⟨_,_,ks,rfl,rfl,hv.ac hik 4 c2 A,rfl,hd,rfl⟩
  ·
    have hsn:=Eu (w:=(L.getD i dl).Wrap) r2 c2 A;have hlw:=Ev (l:=(L.getD i dl).Cells) (w:=(L.getD i dl).Wrap) c2 A;have hdn:=CY (l:=(L.getD i dl).Cells) (w:=(L.getD i dl).Wrap) (a:=c2) (b:=A);unfold eY;simp only [bsm,hv.p];rw [eu hv.g hik];simp only [bsm,Int.reduceBEq,ak,aY,bF];rw [A4 r1 r2 (by omega),D0 (by omega) _ _ (L.getD i dl).Wrap];simp only [bsm];have:=B1 hv hik (c:=(ish (L.getD i dl).Cells (L.getD i dl).Wrap c2 A).cells) (done:=mvs c2 A (L.getD i dl).Cells.length) (r:=ish (L.getD i dl).Cells (L.getD i dl).Wrap c2 A) rfl hdn.1 hdn.2 rfl;simp only at this;rw [this];exact ⟨_,_,ks,rfl,rfl,hv.row hik hsn (by rw [hlw]; exact r3),rfl,hd,rfl⟩
  ·
    have hsn:=EI (w:=(L.getD i dl).Wrap) r2 c2 A;have hlw:=EJ (l:=(L.getD i dl).Cells) (w:=(L.getD i dl).Wrap) c2 A;have hdn:=Db (l:=(L.getD i dl).Cells) (w:=(L.getD i dl).Wrap) (a:=c2) (b:=A);unfold eY;simp only [bsm,hv.p];rw [eu hv.g hik];simp only [bsm,Int.reduceBEq,ak,aY,bF];rw [A5 r1 r2 (by omega),D1 (by omega) _ _ (L.getD i dl).Wrap];simp only [bsm];have:=B1 hv hik (c:=(dsh (L.getD i dl).Cells (L.getD i dl).Wrap c2 A).cells) (done:=mvs c2 A (L.getD i dl).Cells.length) (r:=dsh (L.getD i dl).Cells (L.getD i dl).Wrap c2 A) rfl hdn.1 hdn.2 rfl;simp only at this;rw [this];exact ⟨_,_,ks,rfl,rfl,hv.row hik hsn (by rw [hlw]; exact r3),rfl,hd,rfl⟩
  ·
    obtain ⟨s',ks',u1,⟨u2,u3,u4,u5⟩,u6,u7⟩:=yJ hv.g hv.nd (i:Int) (ks.length:Int) A;have hm:=pq (W:=W) (L:=L) (by omega) w2 (fun x hx=>(hv.ok x hx).2) (i:Int) (ks.length:Int) A false;rw [hlen] at hm⊢;unfold gJ;simp only [bsm,hv.p];rw [dZ hv.g];simp only [bsm,Int.reduceBEq,ak,aY,bF];rw [u1,hm];have hp:s'.place_Pen[k]? = some ⟨some g,⟨(i:Int),c2,false⟩,au⟩:=by rw [jM u6]; exact hv.p
    simp only [bsm,hp,dj];rw [gF (cD hp)];refine ⟨_,_,ks',rfl,rfl,⟨wN (cD hp),u2.sp _ _,u3,?_,(qe u6).trans hv.o,(hv.f.step u7 (jM u6)).sp _⟩,u4,⟨hd.rr,by simp only; omega,fun e=>by cases e⟩,rfl⟩;exact u5.trans (by rw [hv.l])
  ·
    obtain ⟨s',ks',u1,⟨u2,u3,u4,u5⟩,u6,u7⟩:=zv hv.g hv.nd (i:Int) (ks.length:Int) A;have hm:=pq (W:=W) (L:=L) (by omega) w2 (fun x hx=>(hv.ok x hx).2) (i:Int) (ks.length:Int) A true;rw [hlen] at hm⊢;unfold gJ;simp only [bsm,hv.p];rw [dZ hv.g];simp only [bsm,Int.reduceBEq,ak,aY,bF];rw [u1,hm];have hp:s'.place_Pen[k]? = some ⟨some g,⟨(i:Int),c2,false⟩,au⟩:=by rw [jM u6]; exact hv.p
    simp only [bsm,hp,dj];rw [gF (cD hp)];refine ⟨_,_,ks',rfl,rfl,⟨wN (cD hp),u2.sp _ _,u3,?_,(qe u6).trans hv.o,(hv.f.step u7 (jM u6)).sp _⟩,u4,⟨hd.rr,by simp only; omega,fun e=>by cases e⟩,rfl⟩;exact u5.trans (by rw [hv.l])
  ·
    obtain ⟨s',ks',u1,⟨u2,u3,u4,u5⟩,u6,u7⟩:=zv hv.g hv.nd 0 (ks.length:Int) A;have hm:=pq (W:=W) (L:=L) (by omega) w2 (fun x hx=>(hv.ok x hx).2) 0 (ks.length:Int) A true;rw [hlen] at hm⊢;unfold gJ;simp only [bsm,hv.p];rw [dZ hv.g];simp only [bsm,Int.reduceBEq,ak,aY,bF];rw [u1,hm];refine ⟨_,_,ks',rfl,rfl,⟨by rw [jM u6]; exact hv.p,u2,u3,?_,(qe u6).trans hv.o,hv.f.step u7 (jM u6)⟩,u4,hd,rfl⟩;exact u5.trans (by rw [hv.l])
  ·
    obtain ⟨s',ks',u1,⟨u2,u3,u4,u5⟩,u6,u7⟩:=yJ hv.g hv.nd 0 (ks.length:Int) A;have hm:=pq (W:=W) (L:=L) (by omega) w2 (fun x hx=>(hv.ok x hx).2) 0 (ks.length:Int) A false;rw [hlen] at hm⊢;unfold gJ;simp only [bsm,hv.p];rw [dZ hv.g];simp only [bsm,Int.reduceBEq,ak,aY,bF];rw [u1,hm];refine ⟨_,_,ks',rfl,rfl,⟨by rw [jM u6]; exact hv.p,u2,u3,?_,(qe u6).trans hv.o,hv.f.step u7 (jM u6)⟩,u4,hd,rfl⟩;exact u5.trans (by rw [hv.l])
  ·
    unfold eY;simp only [bsm,hv.p];rw [eu hv.g hik];simp only [bsm,Int.reduceBEq,ak,aY,bF];rw [gF (cD hv.p)];exact ⟨_,_,ks,rfl,rfl,hv.set ⟨(i:Int),c2,false⟩ (A != 0),rfl,hd,rfl⟩
end Go.Proofs.YtidapncdmjppeaaGreatDoor
