/- Parts of the proofs of PlayFirst: the walk through the code, and plain Lean. No condition. -/
import Derived.Test.YtclmdpamofdoiaaGreatDoorPfE
import Derived.Test.YtclmdpamofdoiaaGreatDoorPfD
import Derived.Test.YtclmdpamofdoiaaGreatDoorPfC
import Derived.KernelRfl
import Derived.Test.YtclmdpamofdoiaaGreatDoorPfB
import Derived.Test.YtclmdpamofdoiaaGreatDoorPfA
set_option linter.unusedVariables false
set_option linter.unusedSimpArgs false
namespace Go.Proofs.YtclmdpamofdoiaaGreatDoor
open Go Go.Lt
def Byt (b:Int):Prop:=0≤b∧b≤255
def Bts (l:List Int):Prop:=∀x∈l,Byt x
theorem yr {b:Int} (h:Byt b):jC b=some (ld b):=by
 obtain ⟨h1,h2⟩:=h;unfold jC ld;simp only [aY,bsm,aq,am,zG];have e1:w64 (0+1)=1:=rfl;have e2:w64 (1+1)=2:=rfl;have e3:w64 (2+1)=3:=rfl;have e4:w64 (3+1)=4:=rfl;rw [e1,e2,e3,e4]
 repeat' split
 all_goals first | rfl | omega
theorem zB {b:Int} (h:Byt b) (hl:2≤ld b):kf b=some (slo b,shi b):=by
 unfold kf slo shi;rw [yr h];simp only [bsm,aL,am];rw [af (by omega)];have e1:IntKind.u8.wrap (IntKind.u8.wrap (191 - 16) - 32)=143:=by decide
 have e2:IntKind.u8.wrap (191 - 32)=159:=by decide
 rw [e1,e2];by_cases a1:b=224
 ·subst a1; rfl
 by_cases a2:b=240
 ·subst a2; rfl
 by_cases a3:b=244
 ·subst a3; rfl
 by_cases a4:b=237
 ·subst a4; rfl
 rw [af a1,af a2,af a3,af a4,af a1,af a2,af a4,af a3];rfl
def Dm (n:Nat):Bool:=(lL n==if ld n=0 then some 0 else some (b0 n))
theorem Dl:(List.range 256).all Dm=true:=by kernel_rfl
theorem CK {b:Int} (h:Byt b) (hl:1≤ld b):lL b=some (b0 b):=by
 obtain ⟨h1,h2⟩:=h;have:=List.all_eq_true.1 Dl b.toNat (List.mem_range.2 (by omega));unfold Dm at this;rw [aL,pD h1,af (by omega)] at this;exact this
def B6 (n:Nat):Bool:=(kT .u8 n 63==if 128≤n∧n≤191 then (n:Int) - 128 else kT .u8 n 63)
theorem B5:(List.range 256).all B6=true:=by kernel_rfl
theorem B4 {b:Int} (h1:128≤b) (h2:b≤191):kT .u8 b 63=b - 128:=by
 have:=List.all_eq_true.1 B5 b.toNat (List.mem_range.2 (by omega));unfold B6 at this;rw [aL,pD (by omega),ae (by omega)] at this;exact this
theorem FD {x y:Nat} (hx:x < 1000000000) (hy:y < 64):qY .i64 ((x:Int) * 64) (y:Int)=((x * 64+y:Nat):Int):=by
 have e1:BitVec.ofInt 64 ((x:Int) * 64)=BitVec.ofNat 64 (x * 64):=by
  rw [show ((x:Int) * 64)=((x * 64:Nat):Int) by simp,Hw]
 have e2:BitVec.ofInt 64 (y:Int)=BitVec.ofNat 64 y:=Hw _ _;have e3:(x * 64) ||| y=x * 64+y:=by
  have:=Nat.shiftLeft_add_eq_or_of_lt (show y < 2 ^ 6 by omega) x;rw [Nat.shiftLeft_eq] at this;exact this.symm
 unfold qY;rw [show IntKind.i64.bits=64 from rfl,e1,e2,BitVec.toNat_or,HU,HU,zZ (by omega),zZ (by omega),e3];exact aF (by omega)
def Dv (d:bC) (h:List Int):Prop:=
 Hh h∧Bts h∧d=(match h with | []=>⟨0,0,0,0,0⟩ | [a]=>⟨1,ld a - 1,slo a,shi a,b0 a⟩ | a :: b :: t=>⟨(h.length:Int),bg h - (h.length:Int),128,191,vl h⟩)
theorem wP {b:Int} (h:Byt b):∃d',cu ⟨0,0,0,0,0⟩ b=some (d',(rs0 b).1)∧Dv d' (rs0 b).2:=by
 have hb:=h;obtain ⟨h1,h2⟩:=hb;unfold cu rs0;rw [yr h];simp only [bsm,aL];have hin:=sQ b;by_cases e0:ld b=0
 ·rw [ae e0,af (by omega),af (by omega)];exact ⟨_,rfl,.inl rfl,fun x hx=>by simp at hx,rfl⟩
 ·rw [af e0];by_cases e1:ld b=1
  ·rw [ae e1,af (by omega),ae e1,wR (by omega)];exact ⟨_,rfl,.inl rfl,fun x hx=>by simp at hx,rfl⟩
  ·rw [af e1,ae (by omega),CK h (by omega),zB h (by omega)];simp only [bsm];rw [aF (by omega)];refine ⟨_,rfl,.inr ?_,fun x hx=>?_,rfl⟩
   ·simp only [aJ,aP,bg]; omega
   ·rw [List.mem_singleton.1 hx]; exact h
theorem Ae {h:List Int} (hne:h≠ []) (b:Int):vl (h++ [b])=vl h * 64+(b - 128):=by
 cases h with
 | nil=>exact absurd rfl hne
 | cons a t=>simp [vl,lE]
theorem Dp {a:Int} (h:Byt a) (hl:2≤ld a):0≤b0 a∧b0 a≤31:=by
 obtain ⟨h1,h2⟩:=h;unfold b0;unfold ld at hl;unfold ld
 repeat' split at hl
 all_goals (repeat' split)
 all_goals omega
theorem ER {h:List Int} (hh:Hh h) (hb:Bts h) (hne:h≠ []):0≤vl h∧vl h≤131071:=by
 rcases hh with rfl | hh
 ·exact absurd rfl hne
 ·match h,hh with
  | [],_=>exact absurd rfl hne
  | [a],q=>
   have ha:=hb a (by simp);simp only [bg,aJ,aP] at q;have:=Dp ha (by omega);simp only [vl,List.foldl];omega
  | [a,b],q=>
   have ha:=hb a (by simp);simp only [bg,aJ,aP] at q;split at q
   ·rename_i g
    have:=Dp ha (by omega);have hs:128≤b∧b≤191:=by
     have:=g.2;unfold slo shi at this
     repeat' split at this
     all_goals omega
    simp only [vl,List.foldl];omega
   ·omega
  | [a,b,c],q=>
   have ha:=hb a (by simp);simp only [bg,aJ,aP] at q;split at q
   ·rename_i g
    have:=Dp ha (by omega);have hs:128≤b∧b≤191:=by
     have:=g.2;unfold slo shi at this
     repeat' split at this
     all_goals omega
    simp only [vl,List.foldl];omega
   ·omega
  | [a,b,c,d],q=>simp only [bg,aJ,aP] at q; split at q <;> omega
  | _ :: _ :: _ :: _ :: _ :: _,q=>simp only [bg,aJ] at q; omega
theorem yu {h:List Int} (hh:(h.length:Int) < bg h) (hne:h≠ []) (b:Int):∃lo hi,(match h with | [a]=>(slo a,shi a) | _=>(128,191))=(lo,hi)∧128≤lo∧hi≤191∧
  ((lo≤b∧b≤hi)→bg (h++ [b])=bg h)∧(¬(lo≤b∧b≤hi)→bg (h++ [b])=0):=by
 match h,hh with
 | [],_=>exact absurd rfl hne
 | [a],q=>
  simp only [bg,aJ,aP] at q;refine ⟨slo a,shi a,rfl,by unfold slo; repeat' split; all_goals omega,by unfold shi; repeat' split; all_goals omega,fun g=>?_,fun g=>?_⟩
  ·simp only [co,ba,bg];rw [ae ⟨by omega,g.1,g.2⟩]
  ·simp only [co,ba,bg];rw [af (fun c=>g c.2)]
 | [a,c],q=>
  simp only [bg,aJ,aP] at q;refine ⟨128,191,rfl,by omega,by omega,fun g=>?_,fun g=>?_⟩
  ·simp only [co,ba,bg];split at q
   ·rename_i r
    rw [ae ⟨by omega,r.2.1,r.2.2,g.1,g.2⟩,ae r]
   ·omega
  ·simp only [co,ba,bg];rw [af (fun r=>g r.2.2.2)]
 | [a,c,d],q=>
  have hl:=sQ a;simp only [bg,aJ,aP] at q;refine ⟨128,191,rfl,by omega,by omega,fun g=>?_,fun g=>?_⟩
  ·simp only [co,ba,bg];split at q
   ·rename_i r
    rw [ae ⟨by omega,r.2.1,r.2.2.1,r.2.2.2.1,r.2.2.2.2,g.1,g.2⟩,ae r];omega
   ·omega
  ·simp only [co,ba,bg];rw [af (fun r=>g r.2.2.2.2.2)]
 | [a,b,c,d],q=>simp only [bg,aJ,aP] at q; split at q <;> omega
 | _ :: _ :: _ :: _ :: _ :: _,q=>simp only [bg,aJ] at q; omega
theorem Dv.shape {d:bC} {h:List Int} (v:Dv d h) (hne:h≠ []):∃lo hi,(match h with | [a]=>(slo a,shi a) | _=>(128,191))=(lo,hi)∧d=⟨(h.length:Int),bg h - (h.length:Int),lo,hi,vl h⟩:=by
 obtain ⟨_,_,e⟩:=v
 match h,e with
 | [],_=>exact absurd rfl hne
 | [a],e=>exact ⟨_,_,rfl,e⟩
 | a :: b :: t,e=>exact ⟨_,_,rfl,e⟩
theorem C6 {d:bC} {h:List Int} (v:Dv d h) {b:Int} (hb:Byt b):∃d',cV d b=some (d',(jg h b).1)∧Dv d' (jg h b).2:=by
 have v0:=v;obtain ⟨hh,hbs,e⟩:=v;unfold cV jg;simp only [aj,aT];by_cases hne:h= []
 ·subst hne;simp only at e;subst e;obtain ⟨d',a1,a2⟩:=wP hb;simp only [zT,eq_self,bv,a1,bsm];exact ⟨d',rfl,a2⟩
 ·obtain ⟨lo,hi,e1,e2⟩:=v0.shape hne;have hlt:(h.length:Int) < bg h:=by
   rcases hh with q | q
   ·exact absurd q hne
   ·exact q
  obtain ⟨lo',hi',f1,f2,f3,f4,f5⟩:=yu hlt hne b;rw [e1] at f1;cases f1;subst e2;have hlen:0 < h.length:=by
   cases h with
   | nil=>exact absurd rfl hne
   | cons _ _=>simp
  have hl3:=hh.len;rw [af hne];simp only [aL];rw [af (by omega)];simp only [bz,bsm,aD,am,gt_iff_lt];by_cases hr:lo≤b∧b≤hi
  ·have hbg:=f4 hr;have hvl:=ER hh hbs hne;have hbgl:bg h≤4:=by
    match h,hlen with
    | [a],_=>simp only [bg]; exact (sQ a).2
    | [a,b],_=>simp only [bg]; split <;> first | exact (sQ a).2 | omega
    | [a,b,c],_=>simp only [bg]; split <;> first | exact (sQ a).2 | omega
    | a :: b :: c :: x :: t,_=>simp at hl3
   have hbits:qY .i64 (w64 (vl h * 2 ^ 6)) (w64 (kT .u8 b 63))=vl h * 64+(b - 128):=by
    obtain ⟨x,hx⟩:∃x:Nat,vl h=(x:Int):=⟨(vl h).toNat,by omega⟩;obtain ⟨y,hy⟩:∃y:Nat,b - 128=(y:Int):=⟨(b - 128).toNat,by omega⟩;rw [B4 (by omega) (by omega),hx,hy,show ((x:Int) * 2 ^ 6)=(x:Int) * 64 from rfl,aF (by omega),aF (by omega),FD (by omega) (by omega)];simp
   have hbs':Bts (h++ [b]):=fun x hx=>by
    rcases List.mem_append.1 hx with hx | hx
    ·exact hbs x hx
    ·rw [List.mem_singleton.1 hx]; exact hb
   have hsn:=Ae hne b;rw [af (by omega),aF (by omega),aF (by omega),hbits,←hsn];by_cases hm:(h.length:Int)+1 < bg h
   ·rw [ae (by omega),ae (by rw [hbg]; omega)];refine ⟨_,rfl,.inr (by rw [hbg]; simp; omega),hbs',?_⟩;simp only [hbg]
    match h,hlen with
    | a :: t,_=>
     cases t with
     | nil=>simp only [co,ba,aJ,aP,bC.mk.injEq,vP,uO]; omega
     | cons b2 t=>simp only [co,aJ,aA,aP,bC.mk.injEq,vP,uO]; omega
   ·rw [af (by omega),af (by rw [hbg]; omega),ae (by rw [hbg]; omega),wR (by rw [hsn]; omega)];exact ⟨_,rfl,.inl rfl,fun x hx=>by simp at hx,rfl⟩
  ·have hz:=f5 hr;rw [ae (by omega),af (by rw [hz]; omega),af (by rw [hz]; omega)];have hfl:bI ⟨(h.length:Int),bg h - (h.length:Int),lo,hi,vl h⟩=some (⟨0,0,0,0,0⟩,[65533]):=by
    unfold bI cx;simp only [aj,aT,bsm,aL];rw [af (by omega)]
   rw [hfl];simp only [bsm];obtain ⟨d',a1,a2⟩:=wP hb;rw [a1];simp only [bsm];have hrl:(rs0 b).1.length≤1:=by
    unfold rs0;split
    ·simp
    ·split <;> simp
   rw [cR (by simp; omega)];exact ⟨d',rfl,a2⟩
theorem C7 {d:bC} {h:List Int} (v:Dv d h):cx d=some (h.length:Int):=by
 unfold cx;simp only [aj,aT];by_cases hne:h= []
 ·subst hne;obtain ⟨_,_,e⟩:=v;simp only at e;rw [e];rfl
 ·obtain ⟨lo,hi,_,e⟩:=v.shape hne;rw [e]
theorem BE {d:bC} {h:List Int} (v:Dv d h):bI d=some (⟨0,0,0,0,0⟩,if h= [] then [] else [65533]):=by
 unfold bI;rw [C7 v];simp only [bsm,aL];by_cases hne:h= []
 ·subst hne;obtain ⟨_,_,e⟩:=v;simp only at e;rw [ae (by simp),ae rfl,e]
 ·rw [af (fun e=>hne (eU (by omega))),af hne]
theorem Dv.zero:Dv ⟨0,0,0,0,0⟩ []:=⟨.inl rfl,fun x hx=>by simp at hx,rfl⟩
theorem CT {σ τ:Type} (n:Nat) (f:σ→Option (σ ⊕ τ)) (s:σ):cM (n+1) f s=(f s).bind fun x=>match x with | .inl s'=>cM n f s' | .inr t=>some t:=rfl
def lp:List Int→Nat→Int→Int→Bool ⊕ (Int×Int)
 | _,0,lo,hi=> .inr (lo,hi)
 | x :: xs,k+1,lo,hi=>if 128≤x∧x≤191 then lp xs k (lo * 64+(x - 128)) (hi * 64+(x - 128)) else .inl false
 | [],k+1,lo,hi=>lp [] k (lo * 64) (hi * 64+63)
def bd (k:Nat):Int:=if k=3 then 127 else if k=2 then 8191 else if k=1 then 524287 else 33554431
def mk (n:Nat):Int:=if n=2 then 192 else if n=3 then 224 else if n=4 then 240 else 0
def sz (n:Nat):Int:=if n=1 then 128 else if n=2 then 32 else if n=3 then 16 else if n=4 then 8 else 0
def fr (n:Nat):Int:=if n=2 then 128 else if n=3 then 2048 else if n=4 then 65536 else 0
def to (n:Nat):Int:=if n=1 then 127 else if n=2 then 2047 else if n=3 then 65535 else if n=4 then 1114111 else 0
theorem EY {n:Nat} (h1:1≤n) (h2:n≤4):idx ([0,0,192,224,240]:List Int) n=some (mk n)∧idx ([0,128,32,16,8]:List Int) n=some (sz n)∧idx ([0,0,128,2048,65536]:List Int) n=some (fr n)∧idx ([0,127,2047,65535,1114111]:List Int) n=some (to n):=by
 have:n=1∨n=2∨n=3∨n=4:=by omega
 rcases this with rfl | rfl | rfl | rfl <;> exact ⟨rfl,rfl,rfl,rfl⟩
def sst (p:List Int) (n:Nat):Int×Int×Int→Option ((Int×Int×Int) ⊕ (Bool ⊕ (Int×Int))):=fun s_40=>
 if (decide (s_40.2.2 < (n:Int)))=true then
 if (decide (s_40.2.2 < (p.length:Int)))=true then
 (idx p s_40.2.2).bind fun x_62=>
 (orE (decide ((w64 ((w64 x_62) - 128)) < 0)) (some (decide ((w64 ((w64 x_62) - 128)) > 63)))).bind fun d_70=>
 if d_70=true then
 some (.inr (.inl false))
 else
 some (.inl ((w64 ((w64 (s_40.1 * 64))+(w64 ((w64 x_62) - 128)))),(w64 ((w64 ((w64 ((w64 (s_40.2.1 * 64))+63)) - 63))+(w64 ((w64 x_62) - 128)))),(w64 (s_40.2.2+1))))
 else
 some (.inl ((w64 (s_40.1 * 64)),(w64 ((w64 (s_40.2.1 * 64))+63)),(w64 (s_40.2.2+1))))
 else
 some (.inr (.inr (s_40.1,s_40.2.1)))
theorem AX (p:List Int) (hp:Bts p) (n:Nat) (hn:n≤4):∀(k:Nat) (i:Nat) (lo hi:Int),k≤3→1≤i→i+k=n→0≤lo→lo≤bd k→0≤hi→hi≤bd k→cM (σ:=Int×Int×Int) (τ:=Bool ⊕ (Int×Int)) (k+1) (sst p n) (lo,hi,(i:Int))=some (lp (p.drop i) k lo hi):=by
 intro k
 induction k with
 | zero=>
  intro i lo hi _ _ hik _ _ _ _;rw [CT];have e:sst p n (lo,hi,(i:Int))=some (.inr (.inr (lo,hi))):=by
   unfold sst;simp only;rw [af (by simp; omega)]
  rw [e]
  cases p.drop i <;> rfl
 | succ k ih=>
  intro i lo hi hk h1 hik a1 a2 a3 a4;have hb:(bd (k+1)+1) * 64≤bd k+1:=by
   have:k=0∨k=1∨k=2:=by omega
   rcases this with rfl | rfl | rfl <;> decide
  have hb2:bd k≤33554431:=by unfold bd; repeat' split; all_goals omega
  rw [CT];by_cases hi':i < p.length
  ·rw [gw hi'];have hx:=hp _ (aH hi');obtain ⟨x1,x2⟩:=hx;unfold lp;have e:sst p n (lo,hi,(i:Int))=if 128≤p[i]∧p[i]≤191 then some (.inl (lo * 64+(p[i] - 128),hi * 64+(p[i] - 128),((i+1:Nat):Int))) else some (.inr (.inl false)):=by
    unfold sst;simp only;rw [ae (by simp; omega),eJ (show i < n by omega) (by omega),ae (dlt hi'),bp hi'];simp only [bsm,bz,aD,am];rw [aF (n:=p[i]) (by omega),aF (n:=p[i] - 128) (by omega)];by_cases hr:128≤p[i]∧p[i]≤191
    ·rw [af (by omega),ae hr];rw [aF (n:=lo * 64) (by omega),aF (n:=hi * 64) (by omega),aF (n:=hi * 64+63) (by omega),aF (n:=hi * 64+63 - 63) (by omega),aF (n:=lo * 64+(p[i] - 128)) (by omega),aF (n:=hi * 64+63 - 63+(p[i] - 128)) (by omega),show hi * 64+63 - 63+(p[i] - 128)=hi * 64+(p[i] - 128) by omega]
    ·rw [ae (by omega),af hr]
   rw [e];by_cases hr:128≤p[i]∧p[i]≤191
   ·rw [ae hr,ae hr];exact ih (i+1) (lo * 64+(p[i] - 128)) (hi * 64+(p[i] - 128)) (by omega) (by omega) (by omega) (by omega) (by omega) (by omega) (by omega)
   ·rw [af hr,af hr];rfl
  ·rw [gj (by omega)];unfold lp;have e:sst p n (lo,hi,(i:Int))=some (.inl (lo * 64,hi * 64+63,((i+1:Nat):Int))):=by
    unfold sst;simp only;rw [ae (by simp; omega),eJ (show i < n by omega) (by omega),af (by simp; omega)];rw [aF (n:=lo * 64) (by omega),aF (n:=hi * 64) (by omega),aF (n:=hi * 64+63) (by omega)]
   rw [e];have:=ih (i+1) (lo * 64) (hi * 64+63) (by omega) (by omega) (by omega) (by omega) (by omega) (by omega) (by omega);rw [gj (by omega)] at this;exact this
def A2 (n:Nat) (z:Bool ⊕ (Int×Int)):Bool:=match z with | .inl b=>b | .inr (lo,hi)=>decide (max lo (fr n)≤min hi (to n)) && (decide (max lo (fr n) < 55296) || decide (min hi (to n) > 57343))
def smf (a:Int) (t:List Int) (n:Nat):Bool:=if a - mk n < 0∨sz n≤a - mk n then false else A2 n (lp t (n - 1) (a - mk n) (a - mk n))
theorem DK {a:Int} {t:List Int} (hp:Bts (a :: t)) {n:Nat} (h1:1≤n) (h2:n≤4):eQ (a :: t) n=some (smf a t n):=by
 obtain ⟨a1,a2⟩:=hp a (by simp);obtain ⟨m1,m2,m3,m4⟩:=EY h1 h2;have hm:0≤mk n∧mk n≤240:=by unfold mk; repeat' split; all_goals omega
 have hsz:sz n≤bd (n - 1)+1:=by
  have:n=1∨n=2∨n=3∨n=4:=by omega
  rcases this with rfl | rfl | rfl | rfl <;> decide
 unfold eQ smf;rw [m1,m2,m3,m4,show idx (a :: t) 0=some a from rfl];simp only [bsm];rw [aF (n:=a) (by omega),aF (n:=a - mk n) (by omega),bz];simp only [bsm];by_cases hA:a - mk n < 0∨sz n≤a - mk n
 ·rw [ae (by simp only [aD,am]; omega),ae hA]
 ·rw [af (by simp only [aD,am]; omega),af hA,show ((n:Int) - 1).toNat+1=(n - 1)+1 by omega];have:=AX (a :: t) hp n h2 (n - 1) 1 (a - mk n) (a - mk n) (by omega) (by omega) (by omega) (by omega) (by omega) (by omega) (by omega);unfold sst at this;simp only [Int.natCast_one,List.drop_succ_cons,jx] at this;rw [this];simp only [bsm]
  cases lp t (n - 1) (a - mk n) (a - mk n) with
  | inl b=>rfl
  | inr z=>simp only [eX,dx,aY,bz,bsm,A2]
theorem om (a:Int):(ld a=1∧a < 128)∨(ld a=2∧194≤a∧a≤223)∨(ld a=3∧224≤a∧a≤239)∨(ld a=4∧240≤a∧a≤244)∨(ld a=0∧128≤a∧¬(194≤a∧a≤244)):=by
 unfold ld
 repeat' split
 all_goals omega
theorem Fg {a:Int} {t:List Int} (hp:Bts (a :: t)) {n:Nat} (h1:1≤n) (h2:n≤4) (h3:t.length+1≤n):smf a t n=true↔bg (a :: t)=(n:Int):=by
 have hl:=om a;obtain ⟨a1,a2⟩:=hp a (by simp);have:n=1∨n=2∨n=3∨n=4:=by omega
 match t,hp,h3 with
 | [],_,_=>
  rcases this with rfl | rfl | rfl | rfl <;>
   simp only [smf,lp,A2,bg,mk,sz,fr,to,Nat.reduceEqDiff,bv,aT,Nat.reduceSub,aq,aD,am] <;> split <;>
   simp only [aq,aD,am,aj,mf] <;> omega
 | [b],hp,h3=>
  obtain ⟨b1,b2⟩:=hp b (by simp);simp only [aJ,aP] at h3;have hs:slo a=(if a=224 then 160 else if a=240 then 144 else 128)∧shi a=(if a=237 then 159 else if a=244 then 143 else 191):=⟨rfl,rfl⟩;have hs1:(a=224∧slo a=160)∨(a=240∧slo a=144)∨(a≠224∧a≠240∧slo a=128):=by rw [hs.1]; repeat' split; all_goals omega
  have hs2:(a=237∧shi a=159)∨(a=244∧shi a=143)∨(a≠237∧a≠244∧shi a=191):=by rw [hs.2]; repeat' split; all_goals omega
  clear hs
  have hbg:bg [a,b]=if 2≤ld a∧slo a≤b∧b≤shi a then ld a else 0:=rfl;rw [hbg];rcases this with rfl | rfl | rfl | rfl
  ·omega
  all_goals
   simp only [smf,lp,A2,mk,sz,fr,to,Nat.reduceEqDiff,bv,aT,Nat.reduceSub];split
   ·split <;> simp only [aj,mf] <;> omega
   ·by_cases hb:128≤b∧b≤191
    ·simp only [ae hb,aq,aD,am];split <;> omega
    ·simp only [af hb];split <;> simp only [aj,mf] <;> omega
 | [b,c],hp,h3=>
  obtain ⟨b1,b2⟩:=hp b (by simp);obtain ⟨c1,c2⟩:=hp c (by simp);simp only [aJ,aP] at h3;have hs:slo a=(if a=224 then 160 else if a=240 then 144 else 128)∧shi a=(if a=237 then 159 else if a=244 then 143 else 191):=⟨rfl,rfl⟩;have hs1:(a=224∧slo a=160)∨(a=240∧slo a=144)∨(a≠224∧a≠240∧slo a=128):=by rw [hs.1]; repeat' split; all_goals omega
  have hs2:(a=237∧shi a=159)∨(a=244∧shi a=143)∨(a≠237∧a≠244∧shi a=191):=by rw [hs.2]; repeat' split; all_goals omega
  clear hs
  have hbg:bg [a,b,c]=if 3≤ld a∧slo a≤b∧b≤shi a∧128≤c∧c≤191 then ld a else 0:=rfl;rw [hbg];rcases this with rfl | rfl | rfl | rfl
  ·omega
  ·omega
  all_goals
   simp only [smf,lp,A2,mk,sz,fr,to,Nat.reduceEqDiff,bv,aT,Nat.reduceSub];split
   ·split <;> simp only [aj,mf] <;> omega
   ·by_cases hb:128≤b∧b≤191
    ·by_cases hc:128≤c∧c≤191
     ·simp only [ae hb,ae hc,aq,aD,am];split <;> omega
     ·simp only [ae hb,af hc];split <;> simp only [aj,mf] <;> omega
    ·simp only [af hb];split <;> simp only [aj,mf] <;> omega
 | [b,c,d],hp,h3=>
  obtain ⟨b1,b2⟩:=hp b (by simp);obtain ⟨c1,c2⟩:=hp c (by simp);obtain ⟨d1,d2⟩:=hp d (by simp);simp only [aJ,aP] at h3;have hs:slo a=(if a=224 then 160 else if a=240 then 144 else 128)∧shi a=(if a=237 then 159 else if a=244 then 143 else 191):=⟨rfl,rfl⟩;have hs1:(a=224∧slo a=160)∨(a=240∧slo a=144)∨(a≠224∧a≠240∧slo a=128):=by rw [hs.1]; repeat' split; all_goals omega
  have hs2:(a=237∧shi a=159)∨(a=244∧shi a=143)∨(a≠237∧a≠244∧shi a=191):=by rw [hs.2]; repeat' split; all_goals omega
  clear hs
  have hbg:bg [a,b,c,d]=if ld a=4∧slo a≤b∧b≤shi a∧128≤c∧c≤191∧128≤d∧d≤191 then 4 else 0:=rfl;rw [hbg];rcases this with rfl | rfl | rfl | rfl
  ·omega
  ·omega
  ·omega
  ·simp only [smf,lp,A2,mk,sz,fr,to,Nat.reduceEqDiff,bv,aT,Nat.reduceSub];split
   ·split <;> simp only [aj,mf] <;> omega
   ·by_cases hb:128≤b∧b≤191
    ·by_cases hc:128≤c∧c≤191
     ·by_cases hd:128≤d∧d≤191
      ·simp only [ae hb,ae hc,ae hd,aq,aD,am];split <;> omega
      ·simp only [ae hb,ae hc,af hd];split <;> simp only [aj,mf] <;> omega
     ·simp only [ae hb,af hc];split <;> simp only [aj,mf] <;> omega
    ·simp only [af hb];split <;> simp only [aj,mf] <;> omega
 | _ :: _ :: _ :: _ :: _,_,h3=>simp at h3; omega
theorem yY {p:List Int} (h:0 < bg p):(p.length:Int)≤bg p:=by
 match p,h with
 | [],h=>simp [bg] at h
 | [a],h=>simp only [bg,aJ,aP] at h⊢; omega
 | [a,b],h=>simp only [bg,aJ,aP] at h⊢; split at h <;> rename_i g; rw [ae g]; omega; omega
 | [a,b,c],h=>simp only [bg,aJ,aP] at h⊢; split at h <;> rename_i g; rw [ae g]; omega; omega
 | [a,b,c,d],h=>simp only [bg,aJ,aP] at h⊢; split at h <;> rename_i g; rw [ae g]; omega; omega
 | _ :: _ :: _ :: _ :: _ :: _,h=>simp [bg] at h
theorem AM (p:List Int):0≤bg p∧bg p≤4:=by
 match p with
 | []=>simp [bg]
 | [a]=>exact sQ a
 | [a,b]=>simp only [bg]; split <;> first | exact sQ a | omega
 | [a,b,c]=>simp only [bg]; split <;> first | exact sQ a | omega
 | [a,b,c,d]=>simp only [bg]; split <;> omega
 | _ :: _ :: _ :: _ :: _ :: _=>simp [bg]
theorem qW {p:List Int} (hp:Bts p) (hl:p.length≤1000000):bP p=some (bg p):=by
 have hb:=AM p;unfold bP;refine ly (n:=4) (fun i s=>s=((i+1:Nat):Int)∧∀m:Nat,1≤m→m≤i→bg p≠(m:Int)) (fun u=>match u with | .inl n=>n=bg p | .inr _=>bg p=0) (fun i s hi hI=>?_) (fun s hI=>?_) ⟨rfl,fun m h1 h2=>by omega⟩ (by decide) (fun u hu=>?_)
 ·obtain ⟨e,hI⟩:=hI;subst e;rw [ae (by simp; omega)];simp only [aY,bsm];have key:∃t:Bool,(bV (decide ((p.length:Int)≥1) && decide ((p.length:Int)≤((i+1:Nat):Int))) ((eQ p ((i+1:Nat):Int)).bind fun x_22=>some x_22))=some t∧(t=true↔bg p=((i+1:Nat):Int)):=by
   by_cases hc:1≤p.length∧p.length≤i+1
   ·rw [show (decide ((p.length:Int)≥1) && decide ((p.length:Int)≤((i+1:Nat):Int)))=true by simp; omega,iR]
    cases p with
    | nil=>simp at hc
    | cons a t=>
     rw [DK hp (by omega) (by omega)];exact ⟨_,rfl,Fg hp (by omega) (by omega) (by simpa using hc.2)⟩
   ·rw [show (decide ((p.length:Int)≥1) && decide ((p.length:Int)≤((i+1:Nat):Int)))=false by simp; omega,ik];refine ⟨false,rfl,?_⟩;simp only [aj,mf];intro e;have:=yY (p:=p) (by omega);have h1:1≤p.length:=by
     cases p with
     | nil=>simp [bg] at e; omega
     | cons _ _=>simp
    omega
  obtain ⟨t,h1,h2⟩:=key;rw [h1];simp only [bsm]
  cases t with
  | true=>exact .inr ⟨_,rfl,(h2.1 rfl).symm⟩
  | false=>
   refine .inl ⟨_,rfl,by rw [aF (by omega)]; simp,fun m m1 m2=>?_⟩;by_cases hm:m≤i
   ·exact hI m m1 hm
   ·obtain rfl:m=i+1:=by omega
    exact fun e=>by have:=h2.2 e; cases this
 ·obtain ⟨e,hI⟩:=hI;subst e;refine ⟨.inr (),rfl,?_⟩;have e1:=hI 1 (by omega) (by omega);have e2:=hI 2 (by omega) (by omega);have e3:=hI 3 (by omega) (by omega);have e4:=hI 4 (by omega) (by omega);simp only;omega
 ·cases u with
  | inl n=>simp only at hu; rw [hu]
  | inr u=>simp only at hu; rw [hu]
theorem xH {p:List Int} (h:0 < bg p) {i:Nat} (h1:1≤i) (h2:i≤p.length):bg (p.take i)=bg p:=by
 have key:∀d,d+1≤p.length→bg (p.take (p.length - d))=bg p:=by
  intro d
  induction d with
  | zero=>intro _; rw [nz,aC (az _)]
  | succ d ih=>
   intro hd;have e:=ih (by omega);rw [show p.length - d=(p.length - (d+1))+1 by omega,ax (show p.length - (d+1) < p.length by omega)] at e;have hne:p.take (p.length - (d+1))≠ []:=fun q=>by
    have:=gL List.length q;rw [ay,aP] at this;omega
   rw [F9 hne (by rw [e]; exact h),e]
 have:=key (p.length - i) (by omega)
 rwa [show p.length - (p.length - i)=i by omega] at this
theorem xS {p:List Int} (hp:Bts p) (hb:bg p=(p.length:Int)) (hne:p≠ []):eq p=some (vl p)∧0≤vl p∧vl p≤2000000000:=by
 have h4:=AM p;have hlen:1≤p.length:=by
  cases p with
  | nil=>exact absurd rfl hne
  | cons _ _=>simp
 have hbd:∀i,1≤i→i < p.length→0≤vl (p.take i)∧vl (p.take i)≤131071:=fun i h1 h2=>by
  have hl:(p.take i).length=i:=by rw [ay]; omega
  refine ER (.inr ?_) (fun x hx=>hp x (dk hx)) (fun e=>by rw [e] at hl; simp at hl; omega);rw [hl,xH (by omega) h1 (by omega)];omega
 have hstep:∀i,1≤i→(h:i < p.length)→vl (p.take (i+1))=vl (p.take i) * 64+(p[i] - 128):=fun i h1 h=>by
  rw [ax h,Ae];intro e;have:=gL List.length e;rw [ay,aP] at this;omega
 have h0:∀a t,p=a :: t→vl (p.take 1)=a - mk p.length:=fun a t e=>by
  have hk:ld a=(p.length:Int):=by
   have:=xH (p:=p) (by omega) (i:=1) (by omega) (by omega);rw [e,mB,ez] at this;rw [←hb,e,←this];rfl
  rw [e,mB,ez,←e];simp only [vl,List.foldl];unfold b0 mk
  repeat' split
  all_goals omega
 have hfin:0≤vl p∧vl p≤2000000000:=by
  by_cases h1:p.length=1
  ·obtain ⟨a,rfl⟩:∃a,p= [a]:=by
    match p,h1 with
    | [a],_=>exact ⟨a,rfl⟩
   have:=hp a (by simp);obtain ⟨a1,a2⟩:=this;simp only [bg,aJ,aP] at hb;simp only [vl,List.foldl];unfold b0
   repeat' split
   all_goals omega
  ·have e:=hstep (p.length - 1) (by omega) (by omega);rw [show p.length - 1+1=p.length by omega,aC (az _)] at e;have b:=hbd (p.length - 1) (by omega) (by omega);have hx:=hp _ (aH (show p.length - 1 < p.length by omega));obtain ⟨x1,x2⟩:=hx;have ht:128≤p[p.length - 1]:=by
    have e2:p=p.take (p.length - 1)++ [p[p.length - 1]'(by omega)]:=by
     rw [←ax (by omega),show p.length - 1+1=p.length by omega,aC (az _)]
    have hl:(p.take (p.length - 1)).length=p.length - 1:=by rw [ay]; omega
    obtain ⟨lo,hi,_,f2,f3,f4,f5⟩:=yu (h:=p.take (p.length - 1)) (by rw [hl,xH (by omega) (by omega) (by omega)]; omega) (fun q=>by rw [q] at hl; simp at hl; omega) (p[p.length - 1]'(by omega));by_cases hr:lo≤p[p.length - 1]'(by omega)∧p[p.length - 1]'(by omega)≤hi
    ·omega
    ·have:=f5 hr;rw [←e2] at this;omega
   omega
 refine ⟨?_,hfin⟩;obtain ⟨m1,_,_,_⟩:=EY (n:=p.length) hlen (by omega)
 cases hpe:p with
 | nil=>exact absurd hpe hne
 | cons a t=>
  rw [←hpe];have hmk:0≤mk p.length∧mk p.length≤240:=by unfold mk; repeat' split; all_goals omega
  have ha:=hp a (by rw [hpe]; simp);obtain ⟨a1,a2⟩:=ha;have hi0:idx p 0=some a:=by rw [hpe]; rfl
  unfold eq;rw [m1,hi0];simp only [bsm];rw [aF (n:=a) (by omega),aF (n:=a - mk p.length) (by omega)];refine ly (n:=p.length - 1) (fun i s=>s=(vl (p.take (i+1)),((i+1:Nat):Int))) (fun u=>u=vl p) (fun i s hi e=>?_) (fun s e=>?_) (by rw [h0 a t hpe]; rfl) (by omega) (fun u hu=>?_)
  ·subst e;have hx:=hp _ (aH (show i+1 < p.length by omega));obtain ⟨x1,x2⟩:=hx;have hv:=hbd (i+1) (by omega) (by omega);simp only;rw [ae (by simp; omega),bp (show i+1 < p.length by omega)];simp only [bsm];rw [aF (n:=p[i+1]) (by omega),aF (n:=vl (p.take (i+1)) * 64) (by omega),aF (n:=vl (p.take (i+1)) * 64+p[i+1]) (by omega),aF (n:=vl (p.take (i+1)) * 64+p[i+1] - 128) (by omega),eJ (show i+1 < p.length by omega) (by omega)];refine .inl ⟨_,rfl,?_⟩;rw [hstep (i+1) (by omega) (by omega)]
   congr 1
   omega
  ·subst e;refine ⟨_,by simp only; rw [af (by simp; omega)],?_⟩;rw [show p.length - 1+1=p.length by omega,aC (az _)]
  ·subst hu;rw [wR (by omega)]
theorem Bts.snoc {h:List Int} (hb:Bts h) {b:Int} (h1:Byt b):Bts (h++ [b]):=fun x hx=>by
 rcases List.mem_append.1 hx with hx | hx
 ·exact hb x hx
 ·rw [List.mem_singleton.1 hx]; exact h1
theorem ws {b:Int} (h:Byt b):dF [] b=some (rs0 b):=by
 have hb1:Bts ([]++ [b]):=Bts.snoc (fun x hx=>by simp at hx) h;have hl:=sQ b;unfold dF;rw [cR (by simp)];simp only [bsm];rw [cR (by simp)];simp only [bsm];rw [qW (by simpa using hb1) (by simp)];simp only [bsm,aY,ba,bg,aJ,aP];unfold rs0;by_cases h1:1 < ld b
 ·rw [ae (by simp; omega),ae h1]
 ·rw [af (by simp; omega),af h1];by_cases h2:ld b=1
  ·rw [ae (by simp; omega),ae h2,(xS (p:=[b]) (by simpa using hb1) (by simpa [bg] using h2) (by simp)).1];simp only [bsm,vl,List.foldl,b0];rw [af (by omega),af (by omega),af (by omega)]
  ·rw [af (by simp; omega),af h2];simp
theorem DJ {h:List Int} (hh:Hh h) (hb:Bts h) {b:Int} (h1:Byt b):gi h b=some (jg h b):=by
 have hb1:=hb.snoc h1;have h3:=hh.len;unfold gi;rw [cR (by simp; omega),ba];simp only [bsm];rw [cR (by simp; omega)];simp only [bsm];rw [qW hb1 (by simp; omega)];simp only [bsm,aY];by_cases hne:h= []
 ·subst hne;have:=ws h1;unfold dF at this;rw [tE,←this,cR (by simp)];simp only [bsm];rw [cR (by simp)];simp only [bsm];rw [qW (by simpa using hb1) (by simp)];simp only [bsm,aY,ba,aP];rfl
 ·unfold jg;rw [af hne];have hl:(h++ [b]).length=h.length+1:=by simp
  rw [hl];by_cases g1:(h.length:Int)+1 < bg (h++ [b])
  ·rw [ae (by simp; omega),ae g1]
  ·rw [af (by simp; omega),af g1];by_cases g2:0 < bg (h++ [b])
   ·rw [ae (by simpa using g2),ae g2];have hw:bg (h++ [b])=((h++ [b]).length:Int):=by
     have:=yY g2;rw [hl] at this⊢;omega
    rw [(xS hb1 hw (by simp)).1];rfl
   ·rw [af (by simpa using g2),af g2,af (by simp; exact hne),ws h1];have hrl:(rs0 b).1.length≤1:=by
     unfold rs0;split
     ·simp
     ·split <;> simp
    simp only [bsm];rw [cR (by simp; omega)];rfl
theorem tF (h:List Int) (b:Int):(jg h b).1.length≤2:=by
 have hrl:(rs0 b).1.length≤1:=by
  unfold rs0;split
  ·simp
  ·split <;> simp
 unfold jg;split
 ·omega
 ·split
  ·simp
  ·split
   ·simp
   ·simp; omega
theorem wA (h p:List Int):(bu h p).1.length≤2 * p.length:=by
 induction p generalizing h with
 | nil=>simp [bu]
 | cons b p ih=>
  have:=ih (jg h b).2;have h2:=tF h b;simp only [bu,aA,aJ];omega
theorem A9 {h:List Int} (hb:Bts h) {b:Int} (h1:Byt b):Bts (jg h b).2:=by
 have h0:Bts (rs0 b).2:=by
  unfold rs0;split
  ·intro x hx; rw [List.mem_singleton.1 hx]; exact h1
  ·split <;> (intro x hx; simp at hx)
 unfold jg;split
 ·exact h0
 ·split
  ·exact hb.snoc h1
  ·split
   ·intro x hx; simp at hx
   ·exact h0
theorem tG {h p:List Int} (hb:Bts h) (hp:Bts p):Bts (bu h p).2:=by
 induction p generalizing h with
 | nil=>exact hb
 | cons b p ih=>exact ih (A9 hb (hp b (by simp))) (fun x hx=>hp x (vS _ hx))
theorem AB {h p:List Int} (hh:Hh h) (hb:Bts h) (hp:Bts p) (hl:p.length≤1000000):dO h p=some (bu h p):=by
 unfold dO;refine ly (n:=p.length) (fun i s=>s=((bu h (p.take i)).2,(bu h (p.take i)).1,(i:Int))) (fun u=>u=((bu h p).2,(bu h p).1)) (fun i s hi e=>?_) (fun s e=>?_) rfl (by omega) (fun u hu=>?_)
 ·subst e;have hpt:Bts (p.take i):=fun x hx=>hp x (dk hx);simp only;rw [ae (dlt hi),bp hi,eJ hi (by omega)];simp only [bsm];rw [DJ (hh.feed _) (tG hb hpt) (hp _ (aH hi))];simp only [bsm];have h1:=wA h (p.take i);have h2:=tF (bu h (p.take i)).2 p[i];rw [ay] at h1;rw [cR (by omega)];refine .inl ⟨_,rfl,?_⟩;rw [ax hi,oT]
 ·subst e;refine ⟨_,by simp only; rw [af (by simp)],?_⟩;rw [aC (az _)]
 ·subst hu;rfl
theorem Hh.nil:Hh []:= .inl rfl
theorem Bts.nil:Bts []:=fun x hx=>by simp at hx
def uu (c:List Int):List Int:=(bu [] c).1++(if (bu [] c).2= [] then [] else [65533])
theorem GK.take {c:List Int} {k:Nat} (h:GK c k):GK (c.take k) k:=by
  have hle:=h.le;refine ⟨by rw [ay]; omega,fun m h1 h2=>?_,fun hk=>?_,fun hk=>?_,fun hk _=> .inl (by rw [ay]; omega)⟩
  · rw [fh,cz (by omega)]
    exact h.lt m h1 h2
  · subst hk
    simp [bg]
  · rw [fh,Nat.min_self]
    exact h.p hk
theorem wE {c:List Int} {k:Nat} (h:GK c k) (hk:0 < k):(bg (c.take k)=k∧bu [] (c.take k)=([vl (c.take k)],[]))∨((k:Int) < bg (c.take k)∧bu [] (c.take k)=([],c.take k)):=by
  have hle:=h.le;have hl:(c.take k).length=k:=by rw [ay]; omega
  have hp:=h.p hk;have hge:=yY hp;rw [hl] at hge;have ht:=h.take;have htt:(c.take k).take k=c.take k:=by rw [fh,Nat.min_self]
  by_cases hw:bg (c.take k)=k
  · refine .inl ⟨hw,?_⟩
    have:=vg ht hk (by rw [htt]; exact hw);rw [htt,gj (by omega)] at this;exact this
  · refine .inr ⟨by omega,?_⟩
    have ht':GK (c.take k) (c.take k).length:=by rw [hl]; exact ht
    exact yk ht' (by omega) (by rw [hl]; omega)
theorem AU {c:List Int} {k:Nat} (h:GK c k) (hc:c≠ []):uu c=(if 0 < k then (if bg (c.take k)=k then vl (c.take k) else 65533) else 65533) :: uu (c.drop (max k 1)):=by
  by_cases hk:0 < k
  · rw [ae hk,show max k 1=k by omega]
    rcases wE h hk with ⟨hw,_⟩ | ⟨hw,_⟩
    · rw [ae hw]
      have:=vg h hk hw;unfold uu;rw [this];rfl
    · rw [af (by omega)]
      by_cases hlt:k < c.length
      · have:=Bm h hk hw hlt
        unfold uu;rw [this];rfl
      · have hkl:k=c.length:=by have:=h.le; omega
        subst hkl;rw [aC (az _)] at hw;have:=yk h hk hw;unfold uu;rw [this,af hc,gj (az _)];rfl
  · rw [af hk,show max k 1=1 by omega]
    have:=Bn hc (h.z (by omega));unfold uu;rw [this];rfl
theorem Bo {p:List Int} (hp:Bts p) (hl:p.length≤1000000) {a:Nat} (ha:a < p.length):∃k:Nat,GK (p.drop a) k∧cM (σ:=Int) (τ:=Int) (((p.length:Int) - (w64 ((a:Int)+0))).toNat+1) (fun s_15=>
 (bV (decide ((w64 ((a:Int)+s_15)) < (p.length:Int))) ((slc p (a:Int) (w64 ((w64 ((a:Int)+s_15))+1))).bind fun x_30=>
 (bP x_30).bind fun x_31=>
 some (decide (x_31 > 0)))).bind fun d_22=>
 if d_22=true then
 (slc p (a:Int) (w64 ((a:Int)+(w64 (s_15+1))))).bind fun x_43=>
 (bP x_43).bind fun x_44=>
 if (x_44==(w64 (s_15+1)))=true then
 some (.inr ((w64 (s_15+1))))
 else
 some (.inl ((w64 (s_15+1))))
 else
 some (.inr (s_15))) (0)=some (k:Int):=by
  have hcl:(p.drop a).length=p.length - a:=by simp
  have hbt:∀i,Bts ((p.drop a).take i):=fun i x hx=>hp x (fF (dk hx));obtain ⟨t,h1,h2⟩:=kS (σ:=Int) (τ:=Int) (step:=fun s_15=>
 (bV (decide ((w64 ((a:Int)+s_15)) < (p.length:Int))) ((slc p (a:Int) (w64 ((w64 ((a:Int)+s_15))+1))).bind fun x_30=>
 (bP x_30).bind fun x_31=>
 some (decide (x_31 > 0)))).bind fun d_22=>
 if d_22=true then
 (slc p (a:Int) (w64 ((a:Int)+(w64 (s_15+1))))).bind fun x_43=>
 (bP x_43).bind fun x_44=>
 if (x_44==(w64 (s_15+1)))=true then
 some (.inr ((w64 (s_15+1))))
 else
 some (.inl ((w64 (s_15+1))))
 else
 some (.inr (s_15))) (fun s=>∃k:Nat,s=(k:Int)∧k≤p.length - a∧∀m,0 < m→m≤k→(m:Int) < bg ((p.drop a).take m)) (fun s=>p.length - a - s.toNat) (fun t=>∃k:Nat,t=(k:Int)∧GK (p.drop a) k)
    (fun s hs=>by
      obtain ⟨k,rfl,hk,hI⟩:=hs;have e1:w64 ((a:Int)+(k:Int))=((a+k:Nat):Int):=by rw [aF (by omega)]; simp
      have e2:w64 (((a+k:Nat):Int)+1)=((a+k+1:Nat):Int):=by rw [aF (by omega)]; simp
      have e3:w64 ((k:Int)+1)=((k+1:Nat):Int):=by rw [aF (by omega)]; simp
      have e4:w64 ((a:Int)+((k+1:Nat):Int))=((a+k+1:Nat):Int):=by rw [aF (by omega)]; simp; omega
      simp only [e1,e2,e3,e4];by_cases hlt:k < p.length - a
      · have hs:=nP (xs:=p) (i:=a) (j:=a+k+1) (by omega) (by omega)
        rw [show a+k+1 - a=k+1 by omega] at hs;rw [show decide (((a+k:Nat):Int) < (p.length:Int))=true by simp; omega,iR,hs];simp only [bsm];rw [qW (hbt _) (by simp; omega)];simp only [bsm];have hge:0 < bg ((p.drop a).take (k+1))→((k+1:Nat):Int)≤bg ((p.drop a).take (k+1)):=fun h=>by
          have:=yY h;rw [ay,hcl] at this;omega
        by_cases hb:0 < bg ((p.drop a).take (k+1))
        · rw [ae (by simpa using hb)]
          by_cases hw:bg ((p.drop a).take (k+1))=((k+1:Nat):Int)
          · rw [ae (by simpa using hw)]
            refine .inr ⟨_,rfl,k+1,rfl,by omega,fun m m1 m2=>hI m m1 (by omega),fun h=>by omega,fun _=>hb,fun _ h=>by omega⟩
          · rw [af (by simpa using hw)]
            refine .inl ⟨_,rfl,⟨k+1,rfl,by omega,fun m m1 m2=>?_⟩,by simp; omega⟩;by_cases hm:m≤k
            · exact hI m m1 hm
            · obtain rfl:m=k+1:=by omega
              have:=hge hb;omega
        · rw [af (by simpa using hb)]
          have hz:bg ((p.drop a).take (k+1))=0:=by have:=AM ((p.drop a).take (k+1)); omega
          refine .inr ⟨_,rfl,k,rfl,by omega,fun m m1 m2=>hI m m1 (by omega),fun h=>by subst h; exact hz,fun h=>by have:=hI k h (az _); omega,fun _ _=> .inr hz⟩
      · rw [show decide (((a+k:Nat):Int) < (p.length:Int))=false by simp; omega,ik]
        simp only [bsm,aj,aT];have hkk:k=(p.drop a).length:=by omega
        refine .inr ⟨_,rfl,k,rfl,by omega,fun m m1 m2=>hI m m1 (by omega),fun h=>by omega,fun h=>by have:=hI k h (az _); omega,fun _ _=> .inl hkk⟩)
    (((p.length:Int) - (w64 ((a:Int)+0))).toNat+1) 0 ⟨0,rfl,cw _,fun m m1 m2=>by omega⟩ (by rw [aF (by omega)]; omega)
  obtain ⟨k,rfl,hk⟩:=h2;exact ⟨k,hk,h1⟩
theorem B3:uu []= []:=rfl
theorem Gf {p:List Int} (hp:Bts p) (hl:p.length≤1000000):∃l,gH p=some l∧l.map (·.R)=uu p∧l.length≤p.length:=by
  unfold gH;refine wK (fun s=>∃a:Nat,s.2=(a:Int)∧a≤p.length∧s.1.length≤a∧s.1.map (·.R)++uu (p.drop a)=uu p) (fun s=>p.length - s.2.toNat) (fun t=>t.map (·.R)=uu p∧t.length≤p.length) (fun s hs=>?_) ⟨0,rfl,cw _,az _,rfl⟩ (by simp) (fun t ht=>⟨t,rfl,ht⟩);obtain ⟨out,n⟩:=s;obtain ⟨a,e,ha,ho,hI⟩:=hs;simp only at e ho hI;subst e;simp only;by_cases hlt:a < p.length
  · rw [ae (dlt hlt)]
    obtain ⟨k,hk,hloop⟩:=Bo hp hl hlt;rw [hloop];simp only [bsm];have hcl:(p.drop a).length=p.length - a:=by simp
    have hkle:=hk.le;rw [hcl] at hkle;have htp:=AU hk (fun e=>by have:=gL List.length e; rw [hcl] at this; simp at this; omega);have hz:∃kn bad,(if (decide ((k:Int) > 0))=true then
        (slc p (a:Int) (w64 ((a:Int)+(k:Int)))).bind fun x_66=>
        (dO ([]:List Int) x_66).bind fun x_67=>
        if ((x_67.2.length:Int)==0)=true then
        (idx x_67.1 0).bind fun x_89=>
        (some (x_89,(k:Int),(w64 ((a:Int)+(k:Int))),false):Option (Int×Int×Int×Bool))
        else
        (some (65533,(aE (k:Int) 1),(aB (w64 ((w64 ((a:Int)+(k:Int)))+1)) (p.length:Int)),true):Option (Int×Int×Int×Bool))
        else
        (some (65533,(aE (k:Int) 1),(w64 ((a:Int)+1)),true):Option (Int×Int×Int×Bool)))=some ((if 0 < k then (if bg ((p.drop a).take k)=k then vl ((p.drop a).take k) else 65533) else 65533),((max k 1:Nat):Int),kn,bad):=by
      by_cases h0:0 < k
      · rw [ae (by simpa using h0),ae h0]
        have e1:w64 ((a:Int)+(k:Int))=((a+k:Nat):Int):=by rw [aF (by omega)]; simp
        have hs:=nP (xs:=p) (i:=a) (j:=a+k) (by omega) (by omega);rw [show a+k - a=k by omega] at hs;rw [e1,hs];simp only [bsm];rw [AB Hh.nil Bts.nil (fun x hx=>hp x (fF (dk hx))) (by simp; omega)];simp only [bsm];rcases wE hk h0 with ⟨hw,hf⟩ | ⟨hw,hf⟩
        · rw [hf,ae (by simp),ae hw]
          exact ⟨_,_,by rw [show max k 1=k by omega]; rfl⟩
        · rw [hf,af (by simp; omega),af (by omega)]
          exact ⟨_,_,by rw [eX,show max (k:Int) 1=((max k 1:Nat):Int) by omega]⟩
      · rw [af (by simpa using h0),af h0]
        exact ⟨_,_,by rw [eX,show max (k:Int) 1=((max k 1:Nat):Int) by omega]⟩
    obtain ⟨kn,bad,hz⟩:=hz;rw [hz];simp only [bsm];rw [cR (by simp; omega)];simp only [bsm];have e5:w64 ((a:Int)+((max k 1:Nat):Int))=((a+max k 1:Nat):Int):=by rw [aF (by omega)]; simp
    rw [e5];refine .inl ⟨_,rfl,⟨a+max k 1,rfl,by omega,by simp; omega,?_⟩,by simp only; omega⟩;simp only [bO,ss,Gj,aK,co,ba];rw [←hI,htp,dm]
  · rw [af (by simp; omega)]
    refine .inr ⟨_,rfl,?_,by omega⟩;rw [gj (by omega),B3,eB] at hI;exact hI
end Go.Proofs.YtclmdpamofdoiaaGreatDoor
namespace Go.Proofs.YtclmdpamofdoiaaGreatDoor
open Go Go.Lt
variable {s C:Sto} {f k g W H:Nat} {q P:aa} {ks:List Nat}
def Sto.sf (s:Sto) (f:Nat) (x:bD):Sto:={ s with feed_Feeder:=s.feed_Feeder.set f x}
theorem qm {x:bD} (h:f < s.feed_Feeder.length):s.set_feed_Feeder f x=some (s.sf f x):=by
 unfold Sto.set_feed_Feeder;rw [ae h];rfl
theorem tA {x:bD} (h:f < s.feed_Feeder.length):(s.sf f x).feed_Feeder[f]? = some x:=by simp [Sto.sf,h]
theorem ET (s:Sto) (f:Nat) (x y:bD):(s.sf f x).sf f y=s.sf f y:=by simp [Sto.sf]
theorem wX (s:Sto) (f:Nat) (x:bD):(s.sf f x).feed_Feeder.length=s.feed_Feeder.length:=by simp [Sto.sf]
theorem Pv.sf (h:Pv s s k g W q ks) (x:bD):Pv (s.sf f x) (s.sf f x) k g W q ks:=
 ⟨h.p,⟨h.g.g,h.g.r,h.g.h1,h.g.h2,h.g.w1,h.g.w2⟩,h.nd,h.l,rfl,h.f.rgp ⟨rfl,rfl,rfl⟩ ⟨rfl,rfl,rfl⟩⟩
theorem Wc.sf {j:Nat} {c:ai} {y:bB} {t:List Int} {n:Int} (h:Wc s j c y t n) (x:bD):Wc (s.sf f x) j c y t n:=⟨h.x⟩
def FB (C:Sto) (f j:Nat):Prop:=∃x,C.feed_Feeder[f]? = some x∧x.open_=some j
structure Fz (C s:Sto) (f:Nat) (op:Option Nat):Prop where
 fl:C.feed_Feeder.length≤s.feed_Feeder.length
 ff:∀j,j < C.feed_Feeder.length→j≠f→s.feed_Feeder[j]? = C.feed_Feeder[j]?
 wl:C.widen_Cluster.length≤s.widen_Cluster.length
 wc:∀j,j < C.widen_Cluster.length→¬FB C f j→s.widen_Cluster[j]? = C.widen_Cluster[j]?
 oc:∀j,op=some j→FB C f j∨C.widen_Cluster.length≤j
 sc:s.screen_Screen=C.screen_Screen
theorem oU {a b:Sto} (h:a.oth=b.oth):a.feed_Feeder=b.feed_Feeder:=by
 have:=gL Sto.feed_Feeder h;exact this
theorem xh {a b:Sto} (h:a.oth=b.oth):a.screen_Screen=b.screen_Screen:=by
 have:=gL Sto.screen_Screen h;exact this
theorem Fz.oth {s':Sto} {op:Option Nat} (h:Fz C s f op) (e:s'.oth=s.oth):Fz C s' f op:=by
 refine ⟨by rw [oU e]; exact h.fl,by rw [oU e]; exact h.ff,by rw [tL e]; exact h.wl,by rw [tL e]; exact h.wc,h.oc,by rw [xh e]; exact h.sc⟩
theorem Fz.sf {op:Option Nat} (h:Fz C s f op) (x:bD) (op':Option Nat) (ho:∀j,op'=some j→FB C f j∨C.widen_Cluster.length≤j):Fz C (s.sf f x) f op':=
 ⟨by rw [wX]; exact h.fl,fun j a b=>by simp only [Sto.sf]; rw [aW (rM b)]; exact h.ff j a b,h.wl,h.wc,ho,h.sc⟩
theorem Fz.more {op:Option Nat} (h:Fz C s f op) {s':Sto} {z:be} (e:s'.oth=(s.add_widen_Cluster z).oth):Fz C s' f op:=by
 have e1:s'.feed_Feeder=s.feed_Feeder:=(oU e).trans rfl;have e2:s'.widen_Cluster=s.widen_Cluster++ [z]:=(tL e).trans rfl;have e3:s'.screen_Screen=s.screen_Screen:=(xh e).trans rfl;have hl:=h.wl;exact ⟨by rw [e1]; exact h.fl,by rw [e1]; exact h.ff,by rw [e2,aA]; omega,fun j a b=>by rw [e2,aI (by omega)]; exact h.wc j a b,h.oc,by rw [e3]; exact h.sc⟩
theorem Fz.grow {j:Nat} (h:Fz C s f (some j)) {s':Sto} {z:be} (e:s'.oth=(s.sc j z).oth):Fz C s' f (some j):=by
 have e1:s'.feed_Feeder=s.feed_Feeder:=(oU e).trans rfl;have e2:s'.widen_Cluster=s.widen_Cluster.set j z:=(tL e).trans rfl;have e3:s'.screen_Screen=s.screen_Screen:=(xh e).trans rfl;refine ⟨by rw [e1]; exact h.fl,by rw [e1]; exact h.ff,by rw [e2,cq]; exact h.wl,fun i a b=>?_,h.oc,by rw [e3]; exact h.sc⟩;rw [e2,aW ?_]
 ·exact h.wc i a b
 ·rintro rfl;rcases h.oc j rfl with q | q
  ·exact b q
  ·omega
def yv (G:List Int):Bool:=match G.getLast? with | none=>true | some x=>sil x
theorem lx (G:List Int) (r:Int):yv (G++ [r])=sil r:=by simp [yv]
def oP (G:List Int):Sg:=if yv G=true then sg0 else sgF (G.map pr)
structure Op (s:Sto) (k g W H:Nat) (P:aa) (G:List Int) (q:aa) (j:Nat):Prop where
 x:∃q0 c C0 s0 ks0 cs0 cl,cls pj pr G=cs0++ [cl]∧cl≠ []∧sil (cl.headD 0)=false∧fo rS P cs0=some q0∧Pv C0 s0 k g W q0 ks0∧ks0.length=H∧
  Wc s j c (gf (cl.take 16) ((cl.take 16).map pr)) (cl.take 16) (w16 cl)∧aU q0 (w16 cl) (cl.take 16)=some (q,c)
structure Fd (C s:Sto) (f k g W H:Nat) (P:aa) (G h:List Int) (q:aa) (ks:List Nat) (op:Option Nat):Prop where
 v:Pv s s k g W q ks
 fr:Fr C s k g ks
 fz:Fz C s f op
 n:ks.length=H
 hd:Hd q.At W H
 l:fo rS P (cls pj pr G)=some q
 gv:∀x∈G,vld x=true
 d:∃d,s.feed_Feeder[f]? = some ⟨some k,d,sgB (oP G),op⟩∧Dv d h
 o1:yv G=true→op=none
 o2:yv G=false→∃j,op=some j∧Op s k g W H P G q j
theorem B0 {x:Int} (h:vld x=true):r32 x:=by
 unfold vld at h;unfold r32;simp only [aq,am] at h;omega
theorem EA {q q':aa} {r:Int} {b:Bool} (h:cB q r=some (q',b)):zL q r=some q':=by
 unfold zL;rw [h];rfl
theorem DG (c:List Int):(c.take 16).length≤16:=by rw [ay]; omega
theorem uk (t:List Int) (r:Int):gf (t++ [r]) ((t++ [r]).map pr)=gz (gf t (t.map pr)) r (pr r):=by
 rw [uK (by simp) r];have e:((t++ [r]).map pr).take t.length=t.map pr:=by simp
 rw [←Eo t ((t++ [r]).map pr) (az _),e];simp
theorem C3 {r:Int} (h:vld r=true):fR r=r:=by unfold fR; rw [ae h]
theorem CC {C s:Sto} {k g W H:Nat} {q0 q:aa} {ks:List Nat} (h:Pv C s k g W q0 ks) (hn:ks.length=H) {n:Int} {t:List Int} (ht:t.length≤1000000) {c:ai} (hp:aU q0 n t=some (q,c)):Hd q.At W H:=by
 obtain ⟨s',q',ks',i,a,_,_,a2,_,_,a5,_⟩:=zA h n t ht;rw [hp] at a2;cases a2;rw [←hn];exact a5
theorem C9 {G h:List Int} {op:Option Nat} (F:Fd C s f k g W H P G h q ks op) {r:Int} (hr:vld r=true):∃s' q' ks' op',gI s (some f) r=some s'∧Fd C s' f k g W H P (G++ [r]) h q' ks' op':=by
 obtain ⟨d,hd,hdv⟩:=F.d;have hf:=cK hd;have hgv:∀x∈G++ [r],vld x=true:=fun x hx=>by
  rcases List.mem_append.1 hx with hx | hx
  ·exact F.gv x hx
  ·rw [List.mem_singleton.1 hx]; exact hr
 have hcs:=tc pj pr G r;unfold gI;rw [B9];simp only [bsm]
 cases hs:sil r with
 | true=>
  simp only [bv];unfold dg;simp only [bJ,eA,bv,bsm,hd];rw [qm hf];simp only [bsm,wv];rw [qm (by rw [wX]; exact hf),ET];simp only [bsm];rw [tA hf];simp only [bsm];obtain ⟨s',q',ks',a1,a2,a3,hks,hcd⟩:=EC (F.v.sf (f:=f) ⟨some k,d,sgB sg0,none⟩) r;rw [a1];have hdo:=EA a2;have hf1:Fr C (s.sf f ⟨some k,d,sgB sg0,none⟩) k g ks:=F.fr.rgp (Rgp.self _) ⟨rfl,rfl,rfl⟩;have hv1:=F.v.sf (f:=f) ⟨some k,d,sgB sg0,none⟩;refine ⟨s',q',ks',none,rfl,⟨a3.self,hf1.trans hv1.oG hv1.oR a3.f,(F.fz.sf ⟨some k,d,sgB sg0,none⟩ none (fun j e=>by cases e)).oth a3.o,by rw [hks]; exact F.n,by rw [←F.n]; exact hcd (by rw [F.n]; exact F.hd),?_,hgv,⟨d,?_,hdv⟩,fun _=>rfl,fun e=>?_⟩⟩
  ·
   rw [hcs];split
   ·rename_i hj
    obtain ⟨l0,x,rfl,hx⟩:=Ca.yes hs hj;obtain ⟨cs0,c,ec⟩:=jy ((qx (pj:=pj) (pr:=pr) (l0++ [x])).2.2 (by simp));obtain ⟨c',rfl⟩:=yO ec;rw [ec,oL];have hall:=Ca.all (l0++ [x]) (c'++ [x]) (by rw [ec]; simp);have hal:∀y∈c'++ [x],sil y=true:=by
     rcases hall with q | q
     ·exact q
     ·have:=q x (by simp); rw [hx] at this; cases this
    have hl:=F.l;rw [ec,oW] at hl;rw [oW]
    cases hq0:fo rS P cs0 with
    | none=>rw [hq0] at hl; cases hl
    | some q0=>
     rw [hq0] at hl;simp only [bsm] at hl⊢;obtain ⟨a,t,ea⟩:∃a t,c'++ [x]=a :: t:=by
      cases h:c'++ [x] with
      | nil=>simp at h
      | cons a t=>exact ⟨a,t,rfl⟩
     have ha:sil a=true:=hal a (by rw [ea]; simp);rw [ea,sR ha] at hl;rw [ea,co,sR ha,←co,oW,hl];exact hdo
   ·rw [oW,F.l];simp only [bsm];rw [sR hs];show (zL q r).bind (fun b=>some b)=_;rw [hdo];rfl
  ·have:oP (G++ [r])=sg0:=by unfold oP; rw [lx,ae hs]
   rw [this,oU a3.o];exact tA hf
  ·rw [lx,hs] at e;cases e
 | false=>
  simp only [aj,aT];rw [Fb r (B0 hr)];simp only [bsm,hd];rw [Cg];simp only [bsm];rw [qm hf];simp only [bsm];have hsj:sgJ pj (oP G) (pr r)=jn pj pr G r∧sgN (oP G) (pr r)=sgF ((G++ [r]).map pr):=by
   unfold oP;rw [bO,xM,uQ]
   cases hL:yv G with
   | false=>simp only [aj,aT]; exact ⟨rfl,trivial⟩
   | true=>
    simp only [bv];by_cases hG:G= []
    ·subst hG; exact ⟨rfl,rfl⟩
    ·obtain ⟨G0,x,rfl⟩:=jy hG;rw [lx] at hL;rw [Ca.no G0 hL hs,Ca.new G0 hL];exact ⟨rfl,rfl⟩
  rw [hsj.1,hsj.2];have hsg:oP (G++ [r])=sgF ((G++ [r]).map pr):=by unfold oP; rw [lx,hs]; rfl
  rw [←hsg];have hv1:=F.v.sf (f:=f) ⟨some k,d,sgB (oP (G++ [r])),op⟩;have hf1:Fr C (s.sf f ⟨some k,d,sgB (oP (G++ [r])),op⟩) k g ks:=F.fr.rgp (Rgp.self _) ⟨rfl,rfl,rfl⟩;have hz1:=F.fz.sf ⟨some k,d,sgB (oP (G++ [r])),op⟩ op F.fz.oc;have hg1:(s.sf f ⟨some k,d,sgB (oP (G++ [r])),op⟩).feed_Feeder[f]? = some ⟨some k,d,sgB (oP (G++ [r])),op⟩:=tA hf;simp only [aY,bsm];rw [hg1];simp only [bsm];have hfix:=C3 hr
  cases hj:jn pj pr G r with
  | true=>
   have hL:yv G=false:=by
    cases hL:yv G with
    | false=>rfl
    | true=>
     obtain ⟨G0,x,rfl⟩:=jy (wJ pj pr hj);rw [lx] at hL;rw [Ca.no G0 hL hs] at hj;cases hj
   obtain ⟨j,rfl,⟨q0,c,C0,s0,ks0,cs0,cl,ec,hcne,hcs0,hq0,hp0,hn0,hw,hput⟩⟩:=F.o2 hL;simp only [bJ,eA,Bool.and_self,bv];have hcs2:cls pj pr (G++ [r])=cs0++ [cl++ [r]]:=by rw [hcs,ae hj,ec,oL]
   have hclv:∀x∈cl.take 16,vld x=true:=fun x hx=>F.gv x (by
    rw [←(qx (pj:=pj) (pr:=pr) G).1,ec];exact List.mem_flatten.2 ⟨cl,by simp,dk hx⟩)
   have hhd:sil ((cl++ [r]).headD 0)=false:=by
    cases cl with
    | nil=>exact absurd rfl hcne
    | cons a t=>exact hcs0
   have hw16:w16 cl=wz (gf (cl.take 16) ((cl.take 16).map pr)):=rfl;rw [hw16] at hw hput;have on:On C (s.sf f ⟨some k,d,sgB (oP (G++ [r])),some j⟩) k g W H j q0 (gf (cl.take 16) ((cl.take 16).map pr)) (cl.take 16) q c ks:=⟨hv1,hf1,hw.sf _,F.n,hput⟩;have hlayc:∀q2 c2,aU q0 (w16 (cl++ [r])) ((cl++ [r]).take 16)=some (q2,c2)→fo rS P (cls pj pr (G++ [r]))=some q2:=fun q2 c2 e=>by
    rw [hcs2,oW,hq0];simp only [bsm]
    cases hcc:cl++ [r] with
    | nil=>simp at hcc
    | cons a t=>
     rw [hcc] at e hhd;rw [vj (by simpa using hhd),e];rfl
   have hlen:cl.length < 16∨16≤cl.length:=by omega
   have hcl1:1≤cl.length:=by
    cases cl with
    | nil=>exact absurd rfl hcne
    | cons _ _=>simp
   rcases hlen with hlt | hge
   ·have et:cl.take 16=cl:=aC (by omega);have et2:(cl++ [r]).take 16=cl++ [r]:=aC (by simp; omega);rw [et] at on hclv;obtain ⟨s',q',c',ks',b1,b2,z,b3⟩:=Eh hp0 hn0 on hcl1 hlt hclv r (pr r);rw [b1];simp only [bsm];rw [hfix,←uk] at b2;have hw2:w16 (cl++ [r])=wz (gf (cl++ [r]) ((cl++ [r]).map pr)):=by unfold w16; rw [et2]
    refine ⟨s',q',ks',some j,rfl,⟨b2.v,b2.f,hz1.grow b3,b2.n,CC hp0 hn0 (DG cl |> fun _=>by simp; omega) b2.p,hlayc q' c' (by rw [hw2,et2]; exact b2.p),hgv,⟨d,?_,hdv⟩,fun e=>?_,fun _=>⟨j,rfl,⟨q0,c',C0,s0,ks0,cs0,cl++ [r],hcs2,by simp,hhd,hq0,hp0,hn0,?_,by rw [hw2,et2]; exact b2.p⟩⟩⟩⟩
    ·rw [show s'.feed_Feeder=(s.sf f ⟨some k,d,sgB (oP (G++ [r])),some j⟩).feed_Feeder from (oU b3).trans rfl];exact hg1
    ·rw [lx,hs] at e; cases e
    ·rw [hw2,et2];exact b2.w
   ·have hfl:(cl.take 16).length=16:=by rw [ay]; omega
    have et2:(cl++ [r]).take 16=cl.take 16:=cZ hge;have hw2:w16 (cl++ [r])=w16 cl:=by unfold w16; rw [et2]
    rw [Bu on hfl r (pr r)];simp only [bsm];refine ⟨_,q,ks,some j,rfl,⟨hv1,hf1,hz1,F.n,F.hd,hlayc q c (by rw [hw2,et2]; exact hput),hgv,⟨d,hg1,hdv⟩,fun e=>?_,fun _=>⟨j,rfl,⟨q0,c,C0,s0,ks0,cs0,cl++ [r],hcs2,by simp,hhd,hq0,hp0,hn0,?_,by rw [hw2,et2]; exact hput⟩⟩⟩⟩
    ·rw [lx,hs] at e; cases e
    ·rw [hw2,et2];exact hw.sf _
  | false=>
   simp only [mb,aj,aT];obtain ⟨s2,q2,c2,ks2,b1,b2,z,b3⟩:=Dn hv1 r (pr r);rw [b1];simp only [bsm];have e1:s2.feed_Feeder=(s.sf f ⟨some k,d,sgB (oP (G++ [r])),op⟩).feed_Feeder:=(oU b3).trans rfl;rw [e1,hg1];simp only [bsm];have hf2:f < s2.feed_Feeder.length:=by rw [e1,wX]; exact hf
   rw [qm hf2];rw [hfix] at b2;have hgf:gz ⟨false,false,false⟩ r (pr r)=gf [r] ([r].map pr):=by
    have:=uk [] r;simp only [ba] at this;rw [this];rfl
   rw [hgf] at b2;have hcs2:cls pj pr (G++ [r])=cls pj pr G++ [[r]]:=by rw [hcs,hj]; rfl
   have hlay:fo rS P (cls pj pr (G++ [r]))=some q2:=by
    rw [hcs2,oW,F.l];simp only [bsm];rw [vj hs];show (aU q (wz (gf [r] ([r].map pr))) [r]).map (·.1)=some q2;rw [b2.p];rfl
   refine ⟨_,q2,ks2,some (s.sf f ⟨some k,d,sgB (oP (G++ [r])),op⟩).widen_Cluster.length,rfl,⟨b2.v.sf _,?_,(hz1.more b3).sf _ _ (fun j e=>?_),b2.n.trans F.n,CC F.v F.n (by simp) b2.p,hlay,hgv,⟨d,tA hf2,hdv⟩,fun e=>?_,fun _=>⟨_,rfl,⟨q,c2,_,_,ks,cls pj pr G,[r],hcs2,by simp,hs,F.l,F.v,F.n,b2.w.sf _,b2.p⟩⟩⟩⟩
   ·exact (hf1.trans hv1.oG hv1.oR b2.f).rgp (Rgp.self _) ⟨rfl,rfl,rfl⟩
   ·cases e;exact .inr hz1.wl
   ·rw [lx,hs] at e; cases e
end Go.Proofs.YtclmdpamofdoiaaGreatDoor
namespace Go.Proofs.YtclmdpamofdoiaaGreatDoor
open Go Go.Lt
variable {s C:Sto} {f k g W H:Nat} {q P:aa} {ks:List Nat} {op:Option Nat}
theorem E9 {p:List Int} (hp:Bts p) (hb:bg p=(p.length:Int)) (hne:p≠ []):vld (vl p)=true:=by
 have h4:=AM p;unfold vld;simp only [aq,am]
 match p,hne with
 | [a],_=>
  obtain ⟨a1,a2⟩:=hp a (by simp);have hl:=om a;simp only [bg,aJ,aP] at hb;simp only [vl,List.foldl,b0]
  repeat' split
  all_goals simp only [aD,am]
  all_goals omega
 | [a,b],_=>
  obtain ⟨a1,a2⟩:=hp a (by simp);have hl:=om a;simp only [bg,aJ,aP] at hb;split at hb
  ·rename_i g
   have hs:128≤b∧b≤191:=by
    have:=g.2;unfold slo shi at this
    repeat' split at this
    all_goals omega
   simp only [vl,List.foldl,b0]
   repeat' split
   all_goals simp only [aD,am]
   all_goals omega
  ·omega
 | [a,b,c],_=>
  obtain ⟨a1,a2⟩:=hp a (by simp);have hl:=om a;simp only [bg,aJ,aP] at hb;split at hb
  ·rename_i g
   have hs:128≤b∧b≤191∧(a=237→b≤159):=by
    have:=g.2;unfold slo shi at this
    repeat' split at this
    all_goals omega
   simp only [vl,List.foldl,b0]
   repeat' split
   all_goals simp only [aD,am]
   all_goals omega
  ·omega
 | [a,b,c,d],_=>
  obtain ⟨a1,a2⟩:=hp a (by simp);have hl:=om a;simp only [bg,aJ,aP] at hb;split at hb
  ·rename_i g
   have hs:128≤b∧b≤191∧(a=240→144≤b)∧(a=244→b≤143):=by
    have:=g.2;unfold slo shi at this
    repeat' split at this
    all_goals omega
   simp only [vl,List.foldl,b0]
   repeat' split
   all_goals simp only [aD,am]
   all_goals omega
  ·omega
 | _ :: _ :: _ :: _ :: _ :: _,_=>simp only [bg,aJ] at hb; omega
theorem Al {b:Int} (h:Byt b):∀x∈(rs0 b).1,vld x=true:=fun x hx=>by
 obtain ⟨h1,h2⟩:=h;have hl:=om b;unfold rs0 at hx;split at hx
 ·simp at hx
 ·split at hx
  ·rw [List.mem_singleton.1 hx];unfold vld;simp only [aq,aD,am];omega
  ·rw [List.mem_singleton.1 hx]; rfl
theorem A8 {h:List Int} (hb:Bts h) {b:Int} (h1:Byt b):∀x∈(jg h b).1,vld x=true:=fun x hx=>by
 unfold jg at hx;split at hx
 ·exact Al h1 x hx
 ·split at hx
  ·simp at hx
  ·split at hx
   ·rename_i g1 g2
    rw [List.mem_singleton.1 hx];refine E9 (hb.snoc h1) ?_ (by simp);have:=yY g2;simp only [aA,aJ,aP] at this⊢;omega
   ·rcases List.mem_cons.1 hx with hx | hx
    ·rw [hx]; rfl
    ·exact Al h1 x hx
theorem ex4 {α β γ δ:Type} {X:Option α} {Q:α→β→γ→δ→Prop} (h:∃a,X=some a∧∃b c d,Q a b c d):∃a b c d,X=some a∧Q a b c d:=by
 obtain ⟨a,h1,b,c,d,h2⟩:=h;exact ⟨a,b,c,d,h1,h2⟩
theorem AD {G h:List Int} (F:Fd C s f k g W H P G h q ks op) {l:List Int} (hl:l.length≤1000000) (hv:∀x∈l,vld x=true):∃s' q' ks' op',gq s (some f) l=some s'∧Fd C s' f k g W H P (G++l) h q' ks' op':=by
 unfold gq;refine ex4 (qU (n:=l.length) (fun i (st:Int×Sto)=>st.1=(i:Int)∧∃q' ks' op',Fd C st.2 f k g W H P (G++l.take i) h q' ks' op') (fun u:Sto=>∃q' ks' op',Fd C u f k g W H P (G++l) h q' ks' op') (p:=fun s':Sto=>∃q' ks' op',Fd C s' f k g W H P (G++l) h q' ks' op') (fun i st hi hI=>?_) (fun st hI=>?_) ⟨rfl,q,ks,op,by simpa using F⟩ (by omega) (fun u hu=>⟨u,rfl,hu⟩))
 ·obtain ⟨i',st⟩:=st;obtain ⟨e,q1,ks1,op1,F1⟩:=hI;simp only at e F1;subst e;simp only;rw [ae (dlt hi),bp hi,eJ hi (by omega)];simp only [bsm];obtain ⟨s2,q2,ks2,op2,b1,b2⟩:=C9 F1 (hv _ (aH hi));rw [b1];refine .inl ⟨_,rfl,rfl,q2,ks2,op2,?_⟩;rw [ax hi,←aK];exact b2
 ·obtain ⟨i',st⟩:=st;obtain ⟨e,q1,ks1,op1,F1⟩:=hI;simp only at e F1;subst e;refine ⟨st,by simp only; rw [af (by simp)],q1,ks1,op1,?_⟩;rw [aC (az _)] at F1;exact F1
theorem Fd.dec {G h h':List Int} (F:Fd C s f k g W H P G h q ks op) {d d':bC} (hd:s.feed_Feeder[f]? = some ⟨some k,d,sgB (oP G),op⟩) (hv:Dv d' h'):Fd C (s.sf f ⟨some k,d',sgB (oP G),op⟩) f k g W H P G h' q ks op:=by
 have hf:=cK hd;refine ⟨F.v.sf _,F.fr.rgp (Rgp.self _) ⟨rfl,rfl,rfl⟩,F.fz.sf _ _ F.fz.oc,F.n,F.hd,F.l,F.gv,⟨d',tA hf,hv⟩,F.o1,fun e=>?_⟩;obtain ⟨j,e1,⟨q0,c,C0,s0,ks0,cs0,cl,a1,a2,a3,a4,a5,a6,a7,a8⟩⟩:=F.o2 e;exact ⟨j,e1,⟨q0,c,C0,s0,ks0,cs0,cl,a1,a2,a3,a4,a5,a6,a7.sf _,a8⟩⟩
theorem BB {G h:List Int} (F:Fd C s f k g W H P G h q ks op) (hb:Bts h) {b:List Int} (hl:b.length≤9223372036854775807) (hbt:Bts b):∃s' q' ks' op',gK s (some f) b=some s'∧Fd C s' f k g W H P (G++(bu h b).1) (bu h b).2 q' ks' op':=by
 unfold gK;simp only [bJ,aj,aT,bsm];refine ex4 (qU (n:=b.length) (fun i (st:Int×Sto)=>st.1=(i:Int)∧∃q' ks' op',Fd C st.2 f k g W H P (G++(bu h (b.take i)).1) (bu h (b.take i)).2 q' ks' op') (fun u:Sto=>∃q' ks' op',Fd C u f k g W H P (G++(bu h b).1) (bu h b).2 q' ks' op') (p:=fun s':Sto=>∃q' ks' op',Fd C s' f k g W H P (G++(bu h b).1) (bu h b).2 q' ks' op') (fun i st hi hI=>?_) (fun st hI=>?_) ⟨rfl,q,ks,op,by simpa [bu] using F⟩ (by omega) (fun u hu=>⟨u,rfl,hu⟩))
 ·obtain ⟨i',st⟩:=st;obtain ⟨e,q1,ks1,op1,F1⟩:=hI;simp only at e F1;subst e;simp only;rw [ae (dlt hi),bp hi,eJ hi (by omega)];obtain ⟨d,hd,hdv⟩:=F1.d;simp only [bsm,hd];have hx:=hbt _ (aH hi);obtain ⟨d',c1,c2⟩:=C6 hdv hx;rw [c1];simp only [bsm];rw [qm (cK hd)];simp only [bsm];have hbt':Bts (b.take i):=fun x hx=>hbt x (dk hx);obtain ⟨s2,q2,ks2,op2,b1,b2⟩:=AD (F1.dec hd c2) (l:=(jg (bu h (b.take i)).2 b[i]).1) (by have:=tF (bu h (b.take i)).2 b[i]; omega) (A8 (tG hb hbt') hx);rw [b1];refine .inl ⟨_,rfl,rfl,q2,ks2,op2,?_⟩;rw [ax hi,oT];simp only;rw [←aK];exact b2
 ·obtain ⟨i',st⟩:=st;obtain ⟨e,q1,ks1,op1,F1⟩:=hI;simp only at e F1;subst e;refine ⟨st,by simp only; rw [af (by simp)],q1,ks1,op1,?_⟩;rw [aC (az _)] at F1;exact F1
theorem tR {G h:List Int} (F:Fd C s f k g W H P G h q ks op):∃s',dg s (some f)=some s'∧Fd C s' f k g W H q [] h q ks none:=by
 obtain ⟨d,hd,hdv⟩:=F.d;have hf:=cK hd;unfold dg;simp only [bJ,eA,bv,bsm,hd];rw [qm hf];simp only [bsm,wv];rw [qm (by rw [wX]; exact hf),ET];refine ⟨_,rfl,⟨F.v.sf _,F.fr.rgp (Rgp.self _) ⟨rfl,rfl,rfl⟩,F.fz.sf _ none (fun j e=>by cases e),F.n,F.hd,rfl,fun x hx=>by simp at hx,⟨d,tA hf,hdv⟩,fun _=>rfl,fun e=>by cases e⟩⟩
theorem BA {G h:List Int} (F:Fd C s f k g W H P G h q ks op):∃s' q' ks',gJ s (some f)=some s'∧Fd C s' f k g W H q' [] [] q' ks' none∧fo rS P (cls pj pr (G++(if h= [] then [] else [65533])))=some q':=by
 obtain ⟨d,hd,hdv⟩:=F.d;have hf:=cK hd;unfold gJ;simp only [bJ,aj,aT,bsm,hd];rw [BE hdv];simp only [bsm];rw [qm hf];simp only [bsm];obtain ⟨s2,q2,ks2,op2,b1,b2⟩:=AD (F.dec hd Dv.zero) (l:=if h= [] then [] else [65533]) (by split <;> simp) (fun x hx=>by
  split at hx
  ·simp at hx
  ·rw [List.mem_singleton.1 hx]; rfl)
 rw [b1];simp only [bsm];obtain ⟨s3,c1,c2⟩:=tR b2;rw [c1];exact ⟨s3,q2,ks2,rfl,c2,b2.l⟩
theorem G3 {G:List Int} (h:∀x∈G,vld x=true):R32 G:=fun x hx=>B0 (h x hx)
theorem ye {F:ao} (hb:Bts F.Raw) (hl:F.Raw.length≤1000000):dp F=some ((bu [] F.Raw).2.length:Int):=by
 unfold dp;rw [AB Hh.nil Bts.nil hb hl];rfl
theorem Am {F:ao} (hg:∀x∈F.Group,vld x=true) (hl:F.Group.length≤1000000) (h:fo rS F.P (cls pj pr F.Group)=some q):da F=some q:=by
 unfold da;rw [FJ (G3 hg) hl h];rfl
theorem qS {F:ao} (hg:∀x∈F.Group,vld x=true) (hl:F.Group.length≤1000000) (h:fo rS F.P (cls pj pr F.Group)=some q):cO F=some ⟨q,[],F.Raw,F.Parts⟩:=by
 unfold cO;rw [Am hg hl h];rfl
theorem Co {F:ao} (hl:F.Group.length≤1000000) (r:Int):dX F r=some ⟨F.P,F.Group++ [fR r],F.Raw,F.Parts⟩:=by
 have hfix:((cQ r).bind fun x_6=>if (!x_6)=true then (some (65533):Option (Int)) else (some (r):Option (Int)))=some (fR r):=by
  rw [tH];unfold fR
  cases vld r <;> rfl
 unfold dX;rw [hfix];simp only [bsm];rw [cR (by simp; omega),ba];simp only [bsm];rw [cR (by simp; omega)];rfl
theorem Bh {F:ao} (hp:F.Parts=((bu [] F.Raw).1.length:Int)) (hb:Bts F.Raw) {b:List Int} (hbt:Bts b) (hl:F.Raw.length+b.length≤1000000) (hg:F.Group.length≤1000000):
  dJ F b=some ⟨F.P,F.Group++(bu (bu [] F.Raw).2 b).1,F.Raw++b,((bu [] (F.Raw++b)).1.length:Int)⟩:=by
 have hbb:Bts (F.Raw++b):=fun x hx=>by
  rcases List.mem_append.1 hx with hx | hx
  ·exact hb x hx
  ·exact hbt x hx
 have hll:(F.Raw++b).length≤1000000:=by simp; omega
 obtain ⟨l,h1,h2,h3⟩:=Gf hbb hll;have hap:=og [] F.Raw b;unfold dJ;rw [cR (by simp; omega),ba];simp only [bsm];rw [cR (by omega)];simp only [bsm];rw [h1];simp only [bsm];rw [ye hbb hll];simp only [bsm];have hz:∃z:List bU,(if decide (((bu [] (F.Raw++b)).2.length:Int) > 0)=true then (slc l 0 (w64 ((l.length:Int) - 1))).bind fun x_27=>(some (x_27):Option ((List bU))) else (some (l):Option ((List bU))))=some z∧z.map (·.R)=(bu [] (F.Raw++b)).1∧z.length≤l.length:=by
  unfold uu at h2;have hlen:=gL List.length h2;simp only [dh,aA] at hlen;by_cases hh:(bu [] (F.Raw++b)).2= []
  ·rw [af (by rw [hh]; simp)];rw [ae hh,eB] at h2;exact ⟨l,rfl,h2,az _⟩
  ·rw [af hh] at h2 hlen;have hpos:0 < (bu [] (F.Raw++b)).2.length:=by
    cases hc:(bu [] (F.Raw++b)).2 with
    | nil=>exact absurd hc hh
    | cons _ _=>simp
   rw [ae (by simpa using hpos)];simp only [aJ,aP] at hlen;have hs:=nP (xs:=l) (i:=0) (j:=l.length - 1) (cw _) (by omega);rw [show ((0:Nat):Int)=0 from rfl,jx,nz] at hs;rw [aF (by omega),show (l.length:Int) - 1=((l.length - 1:Nat):Int) by omega,hs];refine ⟨_,rfl,?_,by rw [ay]; omega⟩;rw [List.map_take,h2,cZ (by omega),aC (by omega)]
 obtain ⟨z,hz1,hz2,hz3⟩:=hz;rw [hz1];simp only [bsm];have hzl:=gL List.length hz2;rw [dh] at hzl;have hem:(bu [] (F.Raw++b)).1=(bu [] F.Raw).1++(bu (bu [] F.Raw).2 b).1:=by rw [hap]
 have heml:=gL List.length hem;rw [aA] at heml;rw [hp];refine ly (n:=z.length - (bu [] F.Raw).1.length) (fun i st=>st=((((bu [] F.Raw).1.length+i:Nat):Int),F.Group++(bu (bu [] F.Raw).2 b).1.take i)) (fun u=>u=F.Group++(bu (bu [] F.Raw).2 b).1) (fun i st hi e=>?_) (fun st e=>?_) (by simp) (by omega) (fun u hu=>?_)
 ·subst e;simp only;have hlt:(bu [] F.Raw).1.length+i < z.length:=by omega
  rw [ae (by simp; omega),bp hlt];simp only [bsm];have hgr:(F.Group++(bu (bu [] F.Raw).2 b).1.take i).length≤3000000:=by simp; omega
  rw [cR (by simp only [aP]; omega),ba];simp only [bsm];rw [cR (by simp only [aJ,aP]; omega),aF (by omega)];refine .inl ⟨_,rfl,?_⟩;have hR:z[(bu [] F.Raw).1.length+i].R=(bu (bu [] F.Raw).2 b).1[i]'(by omega):=by
   have e1:(z.map (·.R))[(bu [] F.Raw).1.length+i]? = ((bu [] F.Raw).1++(bu (bu [] F.Raw).2 b).1)[(bu [] F.Raw).1.length+i]? :=by rw [hz2,hem]
   rw [bF,ah hlt,bh (by omega),Nat.add_sub_cancel_left,ah (show i < (bu (bu [] F.Raw).2 b).1.length by omega)] at e1;exact bm e1
  rw [hR,ax (show i < (bu (bu [] F.Raw).2 b).1.length by omega),aK]
  congr 1
 ·subst e;refine ⟨_,by simp only; rw [af (by simp; omega)],?_⟩;rw [aC (by omega)]
 ·subst hu;rw [hzl]
end Go.Proofs.YtclmdpamofdoiaaGreatDoor
namespace Go.Proofs.YtclmdpamofdoiaaGreatDoor
open Go Go.Lt
variable {s C:Sto} {f k g W H:Nat} {q P:aa} {ks:List Nat} {op:Option Nat}
theorem Fz.self (s:Sto) (f:Nat) (op:Option Nat) (h:∀x,s.feed_Feeder[f]? = some x→x.open_=op) (hf:f < s.feed_Feeder.length):Fz s s f op:=
 ⟨az _,fun _ _ _=>rfl,az _,fun _ _ _=>rfl,fun j e=> .inl ⟨s.feed_Feeder[f],ah hf,by rw [h _ (ah hf)]; exact e⟩,rfl⟩
theorem Pv.addf (h:Pv s s k g W q ks) (x:bD):Pv (s.add_feed_Feeder x) (s.add_feed_Feeder x) k g W q ks:=
 ⟨h.p,⟨h.g.g,h.g.r,h.g.h1,h.g.h2,h.g.w1,h.g.w2⟩,h.nd,h.l,rfl,h.f.rgp ⟨rfl,rfl,rfl⟩ ⟨rfl,rfl,rfl⟩⟩
theorem C4 (h:Pv s s k g W q ks) (hh:Hd q.At W ks.length):∃s',nq s (some k)=some (s',some s.feed_Feeder.length)∧Fd s' s' s.feed_Feeder.length k g W ks.length q [] [] q ks none∧s'=s.add_feed_Feeder ⟨some k,⟨0,0,0,0,0⟩,⟨false,0,0,0,false⟩,none⟩:=by
 unfold nq;simp only [bJ,gn,bsm,h.p,aj,aT];have hg:(s.add_feed_Feeder ⟨some k,⟨0,0,0,0,0⟩,⟨false,0,0,0,false⟩,none⟩).feed_Feeder[s.feed_Feeder.length]? = some ⟨some k,⟨0,0,0,0,0⟩,⟨false,0,0,0,false⟩,none⟩:=by simp [Sto.add_feed_Feeder]
 refine ⟨_,rfl,⟨h.addf _,(h.addf _).f,Fz.self _ _ _ (fun x hx=>?_) (cK hg),rfl,hh,rfl,fun x hx=>by simp at hx,⟨_,hg,Dv.zero⟩,fun _=>rfl,fun e=>by cases e⟩,rfl⟩;rw [hg] at hx;cases hx;rfl
theorem Be {W H:Nat} (w2:W≤1024) (h2:H≤1024):gA W H=some ⟨bls W H,⟨0,0,false⟩,true⟩:=by
 unfold gA;rw [Bf w2 h2];rfl
variable {F:ao}
end Go.Proofs.YtclmdpamofdoiaaGreatDoor
namespace Go.Proofs.YtclmdpamofdoiaaGreatDoor
open Go Go.Lt
variable {s:Sto} {k:Nat} {l p:List ab} {w:Bool}
theorem Hg {c m:Nat} (h:c≤m):cl (c:Int) m=c:=by unfold cl; omega
theorem Aw (n:Int) (m:Nat):fX n 0 m=some ((cl n m:Nat):Int):=by
 simp only [fX,eX,dx,cl,aQ];omega
def rg (l:List ab) (w:Bool) (a b:Nat):bf:=if a < b then ⟨pl l a (List.replicate (b - a) bl),pw l w a (b - a)⟩ else ⟨l,w⟩
theorem Cr {a b:Nat} (h:Snd l) (hb:b≤l.length):Snd (rg l w a b).cells:=by
 unfold rg;split
 ·exact h.paint (tz _) (by simp; omega)
 ·exact h
theorem Fq (a b:Nat):(rg l w a b).cells.length=l.length:=by
 unfold rg;split
 ·exact jz _ _ _
 ·rfl
theorem sO (h:s.row_Row[k]? = some ⟨l,w⟩) (hs:Snd l) (hl:l.length≤1024) (a b:Int):
  gP s (some k) a b=some (s.sr k (rg l w (cl a l.length) (cl b l.length))):=by
 unfold gP;simp only [jl h,bsm,Aw];have ha:=mW a l.length;have hb:=mW b l.length;generalize cl a l.length=a' at *;generalize cl b l.length=b' at *;unfold rg;by_cases hab:a' < b'
 ·have e:w64 ((b':Int) - (a':Int))=((b' - a':Nat):Int):=by rw [aF (by omega)]; omega
  rw [ae (by simp; omega),ae hab,e,tY,show (max 0 (min (((b' - a':Nat)):Int) 1024)).toNat=b' - a' by omega];simp only [bsm];rw [oe h hs hl (tz _) (by simp; omega) (by simp; omega)];simp
 ·rw [af (by simp; omega),af hab,xW h]
theorem oh (l:List ab) (w:Bool) (hl:l.length≤1024) (a b:Int):cP l w a b=some ((rg l w (cl a l.length) (cl b l.length)).cells,(rg l w (cl a l.length) (cl b l.length)).wrap):=by
 unfold cP;have ha:=mW a l.length;have hb:=mW b l.length;have ea:aE 0 (aB a (l.length:Int))=((cl a l.length:Nat):Int):=by simp only [eX,dx,cl]; omega
 have eb:aE 0 (aB b (l.length:Int))=((cl b l.length:Nat):Int):=by simp only [eX,dx,cl]; omega
 rw [ea,eb];generalize cl a l.length=a' at *;generalize cl b l.length=b' at *;unfold rg;by_cases hab:a' < b'
 ·have e:w64 ((b':Int) - (a':Int))=((b' - a':Nat):Int):=by rw [aF (by omega)]; omega
  rw [af (by simp; omega),ae hab,e,nQ _ (by omega)];simp only [bsm];have:=tI l w a' (List.replicate (b' - a') bl) (by omega) (by omega) (by simp; omega);rw [lv] at this;rw [show (List.replicate (((b' - a':Nat):Int).toNat) (⟨0,([]:List Int)⟩:ab))=List.replicate (b' - a') bl by rfl,this];rfl
 ·rw [ae (by simp; omega),af hab]
theorem Dd (h:s.row_Row[k]? = some ⟨l,w⟩) (hs:Snd l) (hl:l.length≤1024) (col n:Int):
  jR s (some k) col n=some (if 0≤col∧0 < n then s.sr k (rg l w (cl col l.length) (cl (((cl col l.length:Nat):Int)+((cl n l.length:Nat):Int)) l.length)) else s):=by
 unfold jR;simp only [aY,bsm];by_cases hc:0≤col∧0 < n
 ·rw [ae (by simp; omega),ae hc];simp only [jl h,bsm,Aw];have h1:=mW col l.length;have h2:=mW n l.length;rw [aF (by omega),sO h hs hl];simp only [bsm,Hg h1]
 ·rw [af (by simp; omega),af hc]
def ac (l:List ab) (w:Bool) (x A B:Int):bf:=
 if x=0 then rg l w (cl A l.length) (cl B l.length)
 else if x=1 then rg l w 0 (cl (max (-1) (min A l.length)+1) l.length)
 else if x=2 then rg l w (cl A l.length) l.length
 else if x=3 then ⟨(rg l w 0 l.length).cells,false⟩
 else if 0≤A∧0 < B then rg l w (cl A l.length) (cl (((cl A l.length:Nat):Int)+((cl B l.length:Nat):Int)) l.length) else ⟨l,w⟩
theorem EV {a b:Nat} (h:b≤a):rg l w a b=⟨l,w⟩:=by
 unfold rg;rw [af (by omega)]
theorem Da (m:Nat):cl 0 m=0:=by unfold cl; omega
theorem uM (m:Nat):cl (m:Int) m=m:=by unfold cl; omega
theorem zK (h:s.row_Row[k]? = some ⟨l,w⟩) (hs:Snd l) (hl:l.length≤1024) (a b:Int):lM s (some k) a=some (s.sr k (ac l w 1 a b)):=by
 unfold lM fX;simp only [jl h,bsm,eX,dx];rw [aF (by omega),sO h hs hl,Da];rfl
theorem yI (h:s.row_Row[k]? = some ⟨l,w⟩) (hs:Snd l) (hl:l.length≤1024) (a b:Int):kW s (some k) a=some (s.sr k (ac l w 2 a b)):=by
 unfold kW;simp only [jl h,bsm];rw [sO h hs hl,uM];rfl
theorem wN (h:s.row_Row[k]? = some ⟨l,w⟩) (hs:Snd l) (hl:l.length≤1024) (a b:Int):ki s (some k)=some (s.sr k (ac l w 3 a b)):=by
 have hk:=cK h;unfold ki;simp only [jl h,bsm];rw [sO h hs hl,uM,Da];simp only [bsm];rw [uV (l:=(rg l w 0 l.length).cells) (w:=(rg l w 0 l.length).wrap) (rQ hk),Ah];rfl
theorem yJ (h:s.row_Row[k]? = some ⟨l,w⟩) (hs:Snd l) (hl:l.length≤1024) (a b:Int):jR s (some k) a b=some (s.sr k (ac l w 4 a b)):=by
 rw [Dd h hs hl,show ac l w 4 a b=if 0≤a∧0 < b then rg l w (cl a l.length) (cl (((cl a l.length:Nat):Int)+((cl b l.length:Nat):Int)) l.length) else ⟨l,w⟩ by rfl];split
 ·rfl
 ·rw [xW h]
theorem DX (l:List ab) (w:Bool) (hl:l.length≤1024) (x A B:Int):gF l w x A B=some ((ac l w x A B).cells,(ac l w x A B).wrap):=by
 unfold gF ac;by_cases h0:x=0
 ·rw [ae (by simpa using h0),ae h0,oh l w hl];rfl
 rw [af (by simpa using h0),af h0];by_cases h1:x=1
 ·rw [ae (by simpa using h1),ae h1];by_cases hA:A < 0
  ·rw [ae (by simpa using hA),show max (-1) (min A (l.length:Int))+1=0 by omega,Da,EV (az _)]
  ·rw [af (by simpa using hA),dx,aF (by omega),oh l w hl,Da,show max (-1) (min A (l.length:Int))=min A (l.length:Int) by omega];rfl
 rw [af (by simpa using h1),af h1];by_cases h2:x=2
 ·rw [ae (by simpa using h2),ae h2,oh l w hl,uM];rfl
 rw [af (by simpa using h2),af h2];by_cases h3:x=3
 ·rw [ae (by simpa using h3),ae h3,oh l w hl,uM,Da];rfl
 rw [af (by simpa using h3),af h3];simp only [bz,bsm];by_cases hA:0≤A∧0 < B
 ·rw [ae hA];by_cases hg:(l.length:Int)≤A
  ·rw [ae (by simp; omega),show cl A l.length=l.length by unfold cl; omega,EV (mW _ _)]
  ·rw [af (by simp; omega),dx,aF (by omega),oh l w hl];rw [show cl (A+min B (l.length:Int)) l.length=cl (((cl A l.length:Nat):Int)+((cl B l.length:Nat):Int)) l.length by unfold cl; omega];rfl
 ·rw [af hA,ae (by simp; omega)]
theorem Gh (hs:Snd l) (x A B:Int):Snd (ac l w x A B).cells:=by
 unfold ac
 repeat' split
 all_goals first | exact hs | exact Cr hs (mW _ _) | exact Cr hs (az _)
theorem Gi (x A B:Int):(ac l w x A B).cells.length=l.length:=by
 unfold ac
 repeat' split
 all_goals first | rfl | exact Fq _ _
theorem iY {α:Type} {l:List α} {n:Nat} {f:Nat→α} (hl:l.length=n) (h:∀i,i < n→l[i]? = some (f i)):l=(List.range n).map f:=by
 apply cm;intro i;rcases aN i n with hi | hi
 ·rw [h i hi]; simp [hi]
 ·rw [aZ (by omega),aZ (by simp; exact hi)]
def trc (l:List ab) (c j:Nat):ab:=if kd l c=3∧(j=c∨j+1=c) then bl else l.getD j bl
def tr (l:List ab) (c:Nat):List ab:=(List.range l.length).map (trc l c)
theorem qh (l:List ab) (c:Nat):(tr l c).length=l.length:=by simp [tr]
theorem B2 {c j:Nat} (h:j < l.length):(tr l c)[j]? = some (trc l c j):=by simp [tr,h]
theorem B1 (l:List ab) (c j:Nat):(trc l c j).Kind=if kd l c=3∧(j=c∨j+1=c) then 0 else kd l j:=by
 unfold trc;split
 ·rfl
 ·exact nf l j
theorem Av (c j:Nat):kd (tr l c) j=if kd l c=3∧(j=c∨j+1=c) then 0 else kd l j:=by
 rcases aN j l.length with h | h
 ·rw [←B1]; simp [kd,B2 h]
 ·rw [mw (by rw [qh]; exact h),mw (l:=l) h]; simp
theorem ES {c:Nat} (h:kd l c≠3):tr l c=l:=by
 symm
 refine iY rfl fun i hi=>?_;unfold trc;rw [af (by intro e; exact h e.1),av,ah hi];rfl
theorem wS (hs:Snd l) (c:Nat):Snd (tr l c):=fun j hj=>by
 have hj':j < l.length:=by rw [qh] at hj; exact hj
 have he:(tr l c)[j]=trc l c j:=by
  have:=B2 (c:=c) hj';rw [ah hj] at this;exact bm this
 have h2:=fun (h:kd l j=2)=>hs.two h;have h3:=fun (h:kd l j=3)=>hs.three h;have hc:=fun (h:kd l c=3)=>hs.three h;rw [he,B1,Av,Av];refine ⟨?_,?_,?_⟩
 ·unfold trc;split
  ·rfl
  ·exact hs.rg hj'
 ·intro e;split at e
  ·cases e
  ·rename_i hn
   have:=h2 e;rw [af]
   ·exact this
   ·rintro ⟨q1,q2⟩;have:=hc q1;rcases q2 with rfl | q2
    ·exact hn ⟨q1,.inr rfl⟩
    ·obtain rfl:c=j+2:=by omega
     rw [show j+2 - 1=j+1 by omega] at this;omega
 ·intro e;split at e
  ·cases e
  ·rename_i hn
   have:=h3 e;refine ⟨this.1,?_⟩;rw [af]
   ·exact this.2
   ·rintro ⟨q1,q2⟩;have:=hc q1;rcases q2 with q2 | q2
    ·rw [←q2] at q1;omega
    ·exact hn ⟨q1,.inl (by omega)⟩
theorem vk (l:List ab) (c:Nat):kd (tr l c) c≠3:=by
 rw [Av];split
 ·decide
 ·rename_i h
  intro e;exact h ⟨e,.inl rfl⟩
theorem wU (hs:Snd l) (hl:l.length≤1024) (c:Nat):jA l c=some (tr l c):=by
 unfold jA;rcases aN c l.length with h | h
 ·have hd:decide ((c:Int) < (l.length:Int))=true:=by simp; exact h
  simp only [hd,iR,bp h,bsm];by_cases h3:kd l c=3
  ·have hb:(l[c].Kind==3)=true:=by rw [←kK h,h3]; rfl
   obtain ⟨h0,_⟩:=hs.three h3;have e1:w64 ((c:Int) - 1)=((c - 1:Nat):Int):=by rw [aF (by omega)]; omega
   rw [hb,ae rfl,e1,bp (by omega:c - 1 < l.length)];simp only [bsm];rw [kR (by omega)];simp only [bsm];rw [bp (by rw [cq]; exact h)];simp only [bsm];rw [kR (by rw [cq]; exact h)];simp only [bsm]
   congr 1
   refine iY (by simp) fun i hi=>?_;unfold trc;by_cases q1:c=i
   ·subst q1;rw [bq (by rw [cq]; exact h),ae ⟨h3,.inl rfl⟩];rfl
   ·rw [aW q1];by_cases q2:c - 1=i
    ·subst q2;rw [bq (by omega),ae ⟨h3,.inr (by omega)⟩];rfl
    ·rw [aW q2,af (by rintro ⟨_,q⟩; omega),av,ah hi];rfl
  ·have hb:(l[c].Kind==3)=false:=by rw [←kK h]; simp [h3]
   rw [hb,af (by decide),ES h3]
 ·have hd:decide ((c:Int) < (l.length:Int))=false:=by simp; exact h
  simp only [hd,ik,bsm];rw [af (by decide),ES (by rw [mw h]; decide)]
theorem wT (hl:l.length≤1024) (c:Nat):dL l c=some (tr l c):=by
 unfold dL;refine xG (vm (n:=l.length) (trc l c) (t:=tr l c) (fun i hi=>?_) ?_ (by omega)) rfl
 ·simp only [dlt hi,bv,bp hi,bsm,eJ hi (by omega),bz];have hz:bV (decide ((c:Int) < (l.length:Int))) ((idx l c).bind fun x_29=>some (x_29.Kind==3))=some (kd l c==3):=by
   rcases aN c l.length with h | h
   ·have hd:decide ((c:Int) < (l.length:Int))=true:=by simp; exact h
    simp only [hd,iR,bp h,bsm,←kK h]
   ·have hd:decide ((c:Int) < (l.length:Int))=false:=by simp; exact h
    simp only [hd,ik];rw [mw h];rfl
  simp only [hz,bsm,aY];rw [show (kd l c==3 && ((i:Int)==(c:Int) || ((i+1:Nat):Int)==(c:Int)))=decide (kd l c=3∧(i=c∨i+1=c)) by
   rw [ck];simp only [aq,aD,aL,am];omega]
  have hx:(if decide (kd l c=3∧(i=c∨i+1=c))=true then (some (0,([]:List Int)):Option (Int×(List Int))) else (some (l[i].Kind,l[i].Text):Option (Int×(List Int))))=some ((trc l c i).Kind,(trc l c i).Text):=by
   unfold trc;split
   ·rename_i h
    rw [ae (yq h)];rfl
   ·rename_i h
    rw [af (by simpa using h),av,ah hi];rfl
  rw [hx];simp only [bsm];rw [cR (by simp; omega)];rfl
 ·simp only [dnl];rfl
def inx (l:List ab) (c n j:Nat):ab:=if j < c then (tr l c).getD j bl else if j < c+n then bl else (tr l c).getD (j - n) bl
def uv (l:List ab) (c n j:Nat):ab:=if j+1=l.length∧(inx l c n j).Kind=2 then bl else inx l c n j
def vo (l:List ab) (c n:Nat):List ab:=(List.range l.length).map (uv l c n)
theorem oo (l:List ab) (c n:Nat):(vo l c n).length=l.length:=by simp [vo]
theorem yz {c n j:Nat} (h:j < l.length):(vo l c n)[j]? = some (uv l c n j):=by simp [vo,h]
theorem vn (l:List ab) (c n j:Nat):(inx l c n j).Kind=if j < c then kd (tr l c) j else if j < c+n then 0 else kd (tr l c) (j - n):=by
 unfold inx;split
 ·exact nf _ _
 ·split
  ·rfl
  ·exact nf _ _
theorem sS (l:List ab) (c n j:Nat) (h:j < l.length):kd (vo l c n) j=if j+1=l.length∧(inx l c n j).Kind=2 then 0 else (inx l c n j).Kind:=by
 rw [show kd (vo l c n) j=(uv l c n j).Kind by simp [kd,yz h]];unfold uv;split <;> rfl
theorem sK (hs:Snd l) (j:Nat):rgt (l.getD j bl)=true:=by
 rcases aN j l.length with h | h
 ·exact hs.rg h
 ·rw [av,aZ h];rfl
theorem Ei {A:Prop} [Decidable A] {X:Int} (h:(if A∧X=2 then (0:Int) else X)=2):X=2∧¬A:=by
 by_cases q:A∧X=2
 ·rw [ae q] at h; omega
 ·rw [af q] at h; exact ⟨h,fun a=>q ⟨a,h⟩⟩
theorem Bw {A:Prop} [Decidable A] {X:Int} (h:(if A∧X=2 then (0:Int) else X)=3):X=3:=by
 by_cases q:A∧X=2
 ·rw [ae q] at h; omega
 ·rwa [af q] at h
theorem CU {A:Prop} [Decidable A] {X:Int} (h:X≠2):(if A∧X=2 then (0:Int) else X)=X:=af fun q=>h q.2
theorem yy (hs:Snd l) (c n:Nat):Snd (vo l c n):=fun j hj=>by
 have hj':j < l.length:=by rw [oo] at hj; exact hj
 have he:(vo l c n)[j]=uv l c n j:=by
  have:=yz (c:=c) (n:=n) hj';rw [ah hj] at this;exact bm this
 have ht:=wS hs c;have hlen:=qh l c;have hat:=vk l c;rw [←kK hj,he];refine ⟨?_,?_,?_⟩
 ·unfold uv;split
  ·rfl
  ·unfold inx;split
   ·exact sK ht j
   ·split
    ·rfl
    ·exact sK ht (j - n)
 ·intro e;rw [sS l c n j hj',vn] at e;obtain ⟨e,hl⟩:=Ei e
  ·rw [sS l c n (j+1) (by omega),vn];have key:(if j+1 < c then kd (tr l c) (j+1) else if j+1 < c+n then 0 else kd (tr l c) (j+1 - n))=3:=by
    split at e
    ·have h3:=ht.two e;rw [ae]
     ·exact h3
     ·rcases aN (j+1) c with q | q
      ·exact q
      ·obtain rfl:c=j+1:=by omega
       exact absurd h3 hat
    ·split at e
     ·cases e
     ·have h3:=ht.two e;rw [af (by omega),af (by omega),show j+1 - n=j - n+1 by omega];exact h3
   rw [key];exact CU (by decide)
 ·intro e;rw [sS l c n j hj',vn] at e;have e':=Bw e;split at e'
  ·obtain ⟨h0,h2⟩:=ht.three e';refine ⟨h0,?_⟩;rw [sS l c n (j - 1) (by omega),vn,af (by rintro ⟨q,_⟩; omega),ae (by omega)];exact h2
  ·split at e'
   ·cases e'
   ·obtain ⟨h0,h2⟩:=ht.three e';have hne:j - n≠c:=by
     intro q;rw [q] at e';exact hat e'
    refine ⟨by omega,?_⟩;rw [sS l c n (j - 1) (by omega),vn,af (by rintro ⟨q,_⟩; omega),af (by omega),af (by omega),show j - 1 - n=j - n - 1 by omega];exact h2
theorem FO (hl:l.length≤1024) {c n:Nat} (hc:c < l.length) (h1:1≤n) (hn:c+n≤l.length):jo (tr l c) n c=some (vo l c n):=by
 unfold jo;have htl:=qh l c;rw [tY,show (max 0 (min (n:Int) 1024)).toNat=n by omega];simp only [bsm];have hi:jK (tr l c) c (List.replicate n bl)=some ((tr l c).take c++List.replicate n bl++(tr l c).drop c):=by
  unfold jK;rw [ae (by rw [htl,lv]; unfold far; omega),bT]
 rw [hi];simp only [bsm];have hO:slc ((tr l c).take c++List.replicate n bl++(tr l c).drop c) 0 ((tr l c).length:Int)=some ((List.range l.length).map (inx l c n)):=by
  have:=nP (xs:=(tr l c).take c++List.replicate n bl++(tr l c).drop c) (i:=0) (j:=(tr l c).length) (by omega) (by simp [htl]; omega);rw [show ((0:Nat):Int)=0 by rfl] at this;rw [this]
  congr 1
  refine iY (by simp [htl]; omega) fun i hi=>?_;rw [jx,aR,ae (by omega),aK];unfold inx;have htk:((tr l c).take c).length=c:=by simp [htl]; omega
  split
  ·rename_i q
   rw [aI (by omega),aR,ae q,av,ah (by omega:i < (tr l c).length)];rfl
  ·rename_i q
   rw [bh (by omega),htk];split
   ·rw [aI (by simp; omega),nb,ae (by omega)]
   ·rw [bh (by simp; omega),lv,bK,show c+(i - c - n)=i - n by omega,av,ah (by omega:i - n < (tr l c).length)];rfl
 rw [hO];simp only [bsm];have e1:w64 (((tr l c).length:Int) - 1)=((l.length - 1:Nat):Int):=by rw [aF (by omega),htl]; omega
 rw [e1,bp (by simp; omega)];simp only [bsm,dU,xN];by_cases hk:(inx l c n (l.length - 1)).Kind=2
 ·rw [ae (by rw [hk]; rfl),kR (by simp; omega)];simp only [bsm]
  congr 1
  refine iY (by simp) fun i hi=>?_;unfold uv;by_cases q:l.length - 1=i
  ·subst q;rw [bq (by simp; omega),ae ⟨by omega,hk⟩];rfl
  ·rw [aW q,af (by rintro ⟨q,_⟩; omega)];simp [hi]
 ·rw [af (by simp; exact hk)];simp only [bsm]
  congr 1
  refine iY (by simp) fun i hi=>?_;unfold uv;by_cases q:l.length - 1=i
  ·subst q;rw [af (by rintro ⟨_,q⟩; exact hk q)];simp [hi]
  ·rw [af (by rintro ⟨q,_⟩; omega)];simp [hi]
def tt (l:List ab) (c n:Nat):List ab:=tr (tr l c) (c+n)
theorem zn (l:List ab) (c n:Nat):(tt l c n).length=l.length:=by simp [tt,qh]
def dlx (l:List ab) (c n j:Nat):ab:=if j < c then (tt l c n).getD j bl else if j+n < l.length then (tt l c n).getD (j+n) bl else bl
def vu (l:List ab) (c n:Nat):List ab:=(List.range l.length).map (dlx l c n)
theorem oC (l:List ab) (c n:Nat):(vu l c n).length=l.length:=by simp [vu]
theorem yM {c n j:Nat} (h:j < l.length):(vu l c n)[j]? = some (dlx l c n j):=by simp [vu,h]
theorem qT (l:List ab) (c n j:Nat) (h:j < l.length):kd (vu l c n) j=if j < c then kd (tt l c n) j else if j+n < l.length then kd (tt l c n) (j+n) else 0:=by
 rw [show kd (vu l c n) j=(dlx l c n j).Kind by simp [kd,yM h]];unfold dlx;split
 ·exact nf _ _
 ·split
  ·exact nf _ _
  ·rfl
theorem yL (hs:Snd l) (c n:Nat):Snd (vu l c n):=fun j hj=>by
 have hj':j < l.length:=by rw [oC] at hj; exact hj
 have he:(vu l c n)[j]=dlx l c n j:=by
  have:=yM (c:=c) (n:=n) hj';rw [ah hj] at this;exact bm this
 have ht:Snd (tt l c n):=wS (wS hs c) (c+n);have hlen:=zn l c n;have hat1:kd (tt l c n) c≠3:=by
  unfold tt;rw [Av];split
  ·decide
  ·exact vk l c
 have hat2:kd (tt l c n) (c+n)≠3:=vk _ _;rw [←kK hj,he];refine ⟨?_,?_,?_⟩
 ·unfold dlx;split
  ·exact sK ht j
  ·split
   ·exact sK ht _
   ·rfl
 ·intro e;rw [qT l c n j hj'] at e;split at e
  ·have h3:=ht.two e;have hlt:=ui (l:=tt l c n) (j:=j+1) (by omega);rw [qT l c n (j+1) (by omega),ae]
   ·exact h3
   ·rcases aN (j+1) c with q | q
    ·exact q
    ·obtain rfl:c=j+1:=by omega
     exact absurd h3 hat1
  ·split at e
   ·have h3:=ht.two e;have hlt:=ui (l:=tt l c n) (j:=j+n+1) (by omega);rw [qT l c n (j+1) (by omega),af (by omega),ae (by omega),show j+1+n=j+n+1 by omega];exact h3
   ·omega
 ·intro e;rw [qT l c n j hj'] at e;split at e
  ·obtain ⟨h0,h2⟩:=ht.three e;refine ⟨h0,?_⟩;rw [qT l c n (j - 1) (by omega),ae (by omega)];exact h2
  ·split at e
   ·obtain ⟨h0,h2⟩:=ht.three e;have hne:j≠c:=by
     intro q;rw [q] at e;exact hat2 e
    refine ⟨by omega,?_⟩;rw [qT l c n (j - 1) (by omega),af (by omega),ae (by omega),show j - 1+n=j+n - 1 by omega];exact h2
   ·omega
theorem FZ (hs:Snd l) (hl:l.length≤1024) {c n:Nat} (hc:c < l.length) (h1:1≤n) (hn:c+n≤l.length):jp (tr l c) n c=some (vu l c n):=by
 unfold jp;have htl:=zn l c n;have e1:w64 ((c:Int)+(n:Int))=((c+n:Nat):Int):=by rw [aF (by omega)]; simp
 rw [e1,wU (wS hs c) (by rw [qh]; exact hl)];simp only [bsm];rw [show tr (tr l c) (c+n)=tt l c n by rfl];have hd:jL (tt l c n) c ((c+n:Nat):Int)=some ((tt l c n).take c++(tt l c n).drop (c+n)):=by
  unfold jL;rw [ae (by rw [htl]; omega),bT,bT]
 rw [hd,tY,show (max 0 (min (n:Int) 1024)).toNat=n by omega];simp only [bsm];rw [cR (by simp [htl]; omega)];simp only [bsm]
 congr 1
 refine iY (by simp [htl]; omega) fun i hi=>?_;unfold dlx;have htk:((tt l c n).take c).length=c:=by simp [htl]; omega
 rw [aK];split
 ·rename_i q
  rw [aI (by omega),aR,ae q,av,ah (by omega:i < (tt l c n).length)];rfl
 ·rename_i q
  rw [bh (by omega),htk];split
  ·rw [aI (by simp [htl]; omega),bK,show c+n+(i - c)=i+n by omega,av,ah (by omega:i+n < (tt l c n).length)];rfl
  ·rw [bh (by simp [htl]; omega),nb,ae (by simp [htl]; omega)]
theorem yj (h:p.length=l.length):pl l 0 p=p:=by
 symm
 refine iY h fun i hi=>?_;unfold pc;rw [ae ⟨cw _,by omega⟩,nz,av,ah (by omega)];rfl
theorem yi (h1:1≤l.length):pw l w 0 l.length=false:=by
 unfold pw tch;rw [show decide (0 < l.length)=true by simp; omega,show decide (0≤l.length - 1)=true by simp,show decide (l.length - 1 < 0+l.length)=true by simp; omega];simp
def mvs (col n:Int) (m:Nat):Bool:=decide (0≤col) && decide (col < (m:Int)) && decide (1≤n)
def ish (l:List ab) (w:Bool) (col n:Int):bf:=if mvs col n l.length=true then ⟨vo l col.toNat (min n ((l.length:Int) - col)).toNat,false⟩ else ⟨l,w⟩
def dsh (l:List ab) (w:Bool) (col n:Int):bf:=if mvs col n l.length=true then ⟨vu l col.toNat (min n ((l.length:Int) - col)).toNat,false⟩ else ⟨l,w⟩
theorem Ej (hs:Snd l) (col n:Int):Snd (ish l w col n).cells:=by
 unfold ish;split
 ·exact yy hs _ _
 ·exact hs
theorem Ey (hs:Snd l) (col n:Int):Snd (dsh l w col n).cells:=by
 unfold dsh;split
 ·exact yL hs _ _
 ·exact hs
theorem Ek (col n:Int):(ish l w col n).cells.length=l.length:=by
 unfold ish;split
 ·exact oo _ _ _
 ·rfl
theorem Ez (col n:Int):(dsh l w col n).cells.length=l.length:=by
 unfold dsh;split
 ·exact oC _ _ _
 ·rfl
theorem uH {col n:Int} {m:Nat}:(decide (col < 0) || decide (col≥(m:Int)) || decide (n < 1))= !mvs col n m:=by
 rw [ck];simp only [mvs,aD,dB,Gy,am,km];omega
theorem xj {col n:Int} {m:Nat} (h:mvs col n m=true):∃c e:Nat,col=(c:Int)∧min n ((m:Int) - col)=(e:Int)∧c < m∧1≤e∧c+e≤m:=by
 simp only [mvs,aq,am] at h;exact ⟨col.toNat,(min n ((m:Int) - col)).toNat,by omega,by omega,by omega,by omega,by omega⟩
theorem A0 (h:s.row_Row[k]? = some ⟨l,w⟩) (hs:Snd l) (hl:l.length≤1024) (col n:Int):ka s (some k) col n=some (s.sr k (ish l w col n)):=by
 unfold ka ei;simp only [jl h,bsm,bz,uH];unfold ish;by_cases hm:mvs col n l.length=true
 ·obtain ⟨c,e,rfl,he,h1,h2,h3⟩:=xj hm;rw [af (by rw [hm]; decide),ae hm,qR h (by omega) hs.sht];simp only [bsm,wU hs hl];have e1:aB n (w64 ((l.length:Int) - (c:Int)))=(e:Int):=by rw [aF (by omega),dx]; exact he
  rw [e1,FO hl h1 h2 h3,he];simp only [bsm,bT];have:=oe h hs hl (yy hs c e) (a:=0) (by rw [oo]; omega) (by rw [oo]; omega);rw [show ((0:Nat):Int)=0 by rfl] at this;rw [this,yj (oo l c e),oo,yi (by omega)];rfl
 ·rw [ae (by simpa using hm),af hm,xW h];rfl
theorem A1 (h:s.row_Row[k]? = some ⟨l,w⟩) (hs:Snd l) (hl:l.length≤1024) (col n:Int):kb s (some k) col n=some (s.sr k (dsh l w col n)):=by
 unfold kb ej;simp only [jl h,bsm,bz,uH];unfold dsh;by_cases hm:mvs col n l.length=true
 ·obtain ⟨c,e,rfl,he,h1,h2,h3⟩:=xj hm;rw [af (by rw [hm]; decide),ae hm,qR h (by omega) hs.sht];simp only [bsm,wU hs hl];have e1:aB n (w64 ((l.length:Int) - (c:Int)))=(e:Int):=by rw [aF (by omega),dx]; exact he
  rw [e1,FZ hs hl h1 h2 h3,he];simp only [bsm,bT];have:=oe h hs hl (yL hs c e) (a:=0) (by rw [oC]; omega) (by rw [oC]; omega);rw [show ((0:Nat):Int)=0 by rfl] at this;rw [this,yj (oC l c e),oC,yi (by omega)];rfl
 ·rw [ae (by simpa using hm),af hm,xW h];rfl
theorem DV (hl:l.length≤1024) (col n:Int) (w:Bool):fc l col n=some ((ish l w col n).cells,mvs col n l.length):=by
 unfold fc;simp only [bsm,bz,uH];unfold ish;by_cases hm:mvs col n l.length=true
 ·rw [hm];obtain ⟨c,e,rfl,he,h1,h2,h3⟩:=xj hm;have e1:aB n (w64 ((l.length:Int) - (c:Int)))=(e:Int):=by rw [aF (by omega),dx]; exact he
  rw [af (by decide),ae rfl,wT hl,e1,he];simp only [bsm,bT];refine xG (vm (n:=l.length) (uv l c e) (t:=vo l c e) (fun i hi=>?_) ?_ (by omega)) rfl
  ·have e2:w64 ((c:Int)+(e:Int))=((c+e:Nat):Int):=by rw [aF (by omega)]; simp
   simp only [dlt hi,bv,eJ hi (by omega),e2,aY,bsm];have htl:=qh l c;have hx:((if decide ((i:Int) < (c:Int))=true then (idx (tr l c) (i:Int)).bind fun x=>(some (x.Kind,x.Text):Option (Int×(List Int))) else (some (0,([]:List Int)):Option (Int×(List Int)))).bind fun z=>
     if decide ((i:Int)≥((c+e:Nat):Int))=true then (idx (tr l c) (w64 ((i:Int) - (e:Int)))).bind fun x=>(some (x.Kind,x.Text):Option (Int×(List Int))) else (some (z.1,z.2):Option (Int×(List Int))))=some ((inx l c e i).Kind,(inx l c e i).Text):=by
    unfold inx;by_cases q1:i < c
    ·rw [ae (by simp; omega),bp (by omega:i < (tr l c).length)];simp only [bsm];rw [af (by simp; omega),ae q1,av,ah (by omega:i < (tr l c).length)];rfl
    ·rw [af (by simp; omega),af q1];simp only [bsm];by_cases q2:i < c+e
     ·rw [af (by simp; omega),ae q2];rfl
     ·have e3:w64 ((i:Int) - (e:Int))=((i - e:Nat):Int):=by rw [aF (by omega)]; omega
      rw [ae (by simp; omega),af q2,e3,bp (by omega:i - e < (tr l c).length),av,ah (by omega:i - e < (tr l c).length)];rfl
   refine (zh _ _ _).symm.trans ?_;rw [hx];simp only [bsm];have hy:(if (((i+1:Nat):Int)==(l.length:Int) && (inx l c e i).Kind==2)=true then (some (0,([]:List Int)):Option (Int×(List Int))) else (some ((inx l c e i).Kind,(inx l c e i).Text):Option (Int×(List Int))))=some ((uv l c e i).Kind,(uv l c e i).Text):=by
    unfold uv;by_cases q:i+1=l.length∧(inx l c e i).Kind=2
    ·rw [ae (by simp only [aq,aL]; omega),ae q];rfl
    ·rw [af (by simp only [aq,aL]; omega),af q]
   rw [hy];simp only [bsm];rw [cR (by simp; omega)];rfl
  ·simp only [dnl];rfl
 ·rw [ae (by simpa using hm),af hm];simp only [tw] at hm;rw [hm]
theorem DW (hl:l.length≤1024) (col n:Int) (w:Bool):fe l col n=some ((dsh l w col n).cells,mvs col n l.length):=by
 unfold fe;simp only [bsm,bz,uH];unfold dsh;by_cases hm:mvs col n l.length=true
 ·rw [hm];obtain ⟨c,e,rfl,he,h1,h2,h3⟩:=xj hm;have e1:aB n (w64 ((l.length:Int) - (c:Int)))=(e:Int):=by rw [aF (by omega),dx]; exact he
  have e2:w64 ((c:Int)+(e:Int))=((c+e:Nat):Int):=by rw [aF (by omega)]; simp
  rw [af (by decide),ae rfl,wT hl,e1,he];simp only [bsm,bT,e2];rw [wT (by rw [qh]; exact hl)];simp only [bsm];rw [show tr (tr l c) (c+e)=tt l c e by rfl];refine xG (vm (n:=l.length) (dlx l c e) (t:=vu l c e) (fun i hi=>?_) ?_ (by omega)) rfl
  ·have htl:=zn l c e;have e3:w64 ((i:Int)+(e:Int))=((i+e:Nat):Int):=by rw [aF (by omega)]; simp
   simp only [dlt hi,bv,eJ hi (by omega),e3];have hx:(if decide ((i:Int) < (c:Int))=true then (idx (tt l c e) (i:Int)).bind fun x=>(some (x.Kind,x.Text):Option (Int×(List Int))) else if decide (((i+e:Nat):Int) < (l.length:Int))=true then (idx (tt l c e) ((i+e:Nat):Int)).bind fun x=>(some (x.Kind,x.Text):Option (Int×(List Int))) else (some (0,([]:List Int)):Option (Int×(List Int))))=some ((dlx l c e i).Kind,(dlx l c e i).Text):=by
    unfold dlx;by_cases q1:i < c
    ·rw [ae (by simp; omega),bp (by omega:i < (tt l c e).length),ae q1,av,ah (by omega:i < (tt l c e).length)];rfl
    ·rw [af (by simp; omega),af q1];by_cases q2:i+e < l.length
     ·rw [ae (by simp only [am]; omega),ae q2,bp (by omega:i+e < (tt l c e).length),av,ah (by omega:i+e < (tt l c e).length)];rfl
     ·rw [af (by simp only [am]; omega),af q2];rfl
   rw [hx];simp only [bsm];rw [cR (by simp; omega)];rfl
  ·simp only [dnl];rfl
 ·rw [ae (by simpa using hm),af hm];simp only [tw] at hm;rw [hm]
end Go.Proofs.YtclmdpamofdoiaaGreatDoor
namespace Go.Proofs.YtclmdpamofdoiaaGreatDoor
open Go Go.Lt
variable {s C:Sto} {g k W:Nat} {ks:List Nat} {q:aa}
def w38 (o:aS):Int:=if o.Kind < 2∨12 < o.Kind then 5 else if (o.Kind=3∨o.Kind=4)∧(o.A < 0∨2 < o.A) then 3 else 0
def e38 (o:aS):Er:=if w38 o=5 then .sent 4 else if w38 o=3 then .sent 2 else .nil
theorem E8 (o:aS):w38 o=5∨w38 o=3∨w38 o=0:=by
  unfold w38
  repeat' split
  all_goals simp
theorem yg (o:aS):fy o=some (w38 o):=by
  unfold fy w38;simp only [bz,bsm,aY];by_cases h:o.Kind < 2∨12 < o.Kind
  · rw [ae h,ae (by simp only [aD,am]; omega)]
  · rw [af h,af (by simp only [aD,am]; omega)]
    by_cases h2:(o.Kind=3∨o.Kind=4)∧(o.A < 0∨2 < o.A)
    · rw [ae h2,ae (by simp only [aq,aD,am,aL]; omega)]
    · rw [af h2,af (by simp only [aq,aD,am,aL]; omega)]
def BD (n:Int):Bool:=decide (2≤n) && decide (n≤12)
theorem BC (n:Int):mN n=some (BD n):=by
  unfold mN BD;simp only [aY,bsm,zG]
theorem Hf (o:aS):BD o.Kind=(w38 o != 5):=by
  rw [ck];unfold BD w38;simp only [aq,am,mV,wG]
  repeat' split
  all_goals omega
theorem vt (o:aS):kG o=some (e38 o):=by
  unfold kG;rw [BC];have hd:BD o.Kind= !decide (o.Kind < 2∨12 < o.Kind):=by
    rw [ck];simp only [BD,aq,am,dB,km];omega
  simp only [bsm,hd,aY,bz,Bool.not_not];unfold e38;by_cases h:o.Kind < 2∨12 < o.Kind
  · have e:w38 o=5:=by unfold w38; rw [ae h]
    rw [ae (by simpa using h),ae e]
  · rw [af (by simpa using h)]
    by_cases h2:(o.Kind=3∨o.Kind=4)∧(o.A < 0∨2 < o.A)
    · have e:w38 o=3:=by unfold w38; rw [af h,ae h2]
      rw [ae (by simp only [aq,aD,am,mV,wG]; omega),e];rfl
    · have e:w38 o=0:=by unfold w38; rw [af h,af h2]
      rw [af (by simp only [aq,aD,am,mV,wG]; omega),e];rfl
theorem Ex (o:aS):(e38 o).isNil=(w38 o==0):=by
  unfold e38;rcases E8 o with h | h | h <;> rw [h] <;> rfl
def lt (r:bf):ak:=⟨r.cells,r.wrap⟩
theorem Dz (h:Pv C s k g W q ks) {i:Nat} (hi:i < ks.length) (x a b:Int):cS q i x a b=some ⟨q.L.set i (lt (ac (q.L.getD i dl).Cells (q.L.getD i dl).Wrap x a b)),q.At,q.Auto⟩:=by
  have hl:=h.len;have hlt:i < q.L.length:=by omega
  have hok:=h.ok _ (aH hlt);have w2:=h.g.w2;unfold cS;rw [bp hlt];simp only [bsm];rw [DX _ _ (by rw [hok.2]; exact w2)];simp only [bsm];rw [sL h hi,gdl hlt];rfl
theorem Pv.ac (h:Pv C s k g W q ks) {i:Nat} (hi:i < ks.length) (x a b:Int):Pv C (s.sr ks[i] (ac (q.L.getD i dl).Cells (q.L.getD i dl).Wrap x a b)) k g W ⟨q.L.set i (lt (Go.Proofs.YtclmdpamofdoiaaGreatDoor.ac (q.L.getD i dl).Cells (q.L.getD i dl).Wrap x a b)),q.At,q.Auto⟩ ks:=by
  have hl:=h.len;have hlt:i < q.L.length:=by omega
  have hok:=h.ok _ (aH hlt);have e:q.L.getD i dl=q.L[i]:=gdl hlt;rw [e];exact h.row hi (Gh hok.1 x a b) (by rw [Gi]; exact hok.2)
theorem Pv.rw_ (h:Pv C s k g W q ks) {i:Nat} (hi:i < ks.length):s.row_Row[ks[i]]? = some ⟨(q.L.getD i dl).Cells,(q.L.getD i dl).Wrap⟩∧Snd (q.L.getD i dl).Cells∧(q.L.getD i dl).Cells.length=W:=by
  have hl:=h.len;have hlt:i < q.L.length:=by omega
  have hok:=h.ok _ (aH hlt);obtain ⟨r,h1,h2,h3⟩:=h.g.at hi;have e:q.L[i]=⟨r.cells,r.wrap⟩:=by rw [h.at hi,nj h1]
  rw [gdl hlt,e];exact ⟨h1,h2,h3⟩
def md (mode:Int):Int:=if mode=0 then 2 else if mode=1 then 1 else 3
theorem wO (h:Pv C s k g W q ks) {i:Nat} (hi:i < ks.length) (hr:q.At.Row=(i:Int)) (mode:Int):lC s (some k) mode=some (s.sr ks[i] (ac (q.L.getD i dl).Cells (q.L.getD i dl).Wrap (md mode) q.At.Col 0)):=by
  obtain ⟨r1,r2,r3⟩:=h.rw_ hi;have w2:=h.g.w2;unfold lC md;simp only [bsm,h.p,hr];rw [eY h.g hi];simp only [bsm];by_cases h0:mode=0
  · rw [ae (by simpa using h0),ae h0,yI r1 r2 (by omega) _ 0]
    rfl
  · rw [af (by simpa using h0),af h0]
    by_cases h1:mode=1
    · rw [ae (by simpa using h1),ae h1,zK r1 r2 (by omega) _ 0]
      rfl
    · rw [af (by simpa using h1),af h1,wN r1 r2 (by omega) q.At.Col 0]
      rfl
def eS (cond:Nat→Bool) (L:List ak):Nat→List ak
  | 0=>L
  | i+1=>if cond i=true then (eS cond L i).set i (lt (ac ((eS cond L i).getD i dl).Cells ((eS cond L i).getD i dl).Wrap 3 0 0)) else eS cond L i
def cnd (mode:Int) (row:Int) (i:Nat):Bool:=mode==2 || (mode==0 && decide ((i:Int) > row)) || (mode==1 && decide ((i:Int) < row))
theorem xZ (h:Pv C s k g W q ks) (mode:Int) {H:Int} (hH:H=(ks.length:Int)):∃s',(cM (σ:=Int×Sto) (τ:=Sto) ((H - 0).toNat+1) (fun s_12=>
 if (decide (s_12.1 < H))=true then
 ((orE (mode==2) ((bV (mode==0) ((s_12.2.place_Pen[k]?).bind fun o_32=>
 some (decide (s_12.1 > o_32.At.Row)))).bind fun d_25=>
 some d_25)).bind fun d_21=>
 (orE d_21 ((bV (mode==1) ((s_12.2.place_Pen[k]?).bind fun o_45=>
 some (decide (s_12.1 < o_45.At.Row)))).bind fun d_38=>
 some d_38)).bind fun d_34=>
 if d_34=true then
 (s_12.2.place_Pen[k]?).bind fun o_51=>
 (bA s_12.2 o_51.G s_12.1).bind fun x_53=>
 (ki s_12.2 x_53).bind fun x_54=>
 (some (x_54):Option (Sto))
 else
 (some (s_12.2):Option (Sto))).bind fun z_15=>
 some (.inl ((w64 (s_12.1+1)),z_15))
 else
 some (.inr (s_12.2))) (0,s))=some s'∧Pv C s' k g W ⟨eS (cnd mode q.At.Row) q.L ks.length,q.At,q.Auto⟩ ks:=by
  subst hH;have hh:=h.g.h2;refine eK (n:=ks.length) (fun i st=>st.1=(i:Int)∧Pv C st.2 k g W ⟨eS (cnd mode q.At.Row) q.L i,q.At,q.Auto⟩ ks) (fun st=>Pv C st k g W ⟨eS (cnd mode q.At.Row) q.L ks.length,q.At,q.Auto⟩ ks) (fun i st hi hI=>?_) (fun st hI=>?_) ⟨rfl,h⟩ (by omega)
  · obtain ⟨i',st⟩:=st
    obtain ⟨e,v⟩:=hI;simp only at e v;subst e;simp only;rw [ae (dlt hi)];have hp:=v.p;simp only at hp;simp only [hp,bsm,aY,bz];rw [eJ hi (by omega)];by_cases hc:cnd mode q.At.Row i=true
    · rw [ae (show (mode==2 || mode==0 && decide ((i:Int) > q.At.Row) || mode==1 && decide ((i:Int) < q.At.Row))=true from hc),eY v.g hi]
      obtain ⟨r1,r2,r3⟩:=v.rw_ hi;simp only [bsm];have w2:=h.g.w2;rw [wN r1 r2 (by omega) 0 0];refine .inl ⟨_,rfl,rfl,?_⟩;simp only [eS];rw [ae hc];exact v.ac hi 3 0 0
    · rw [af (show ¬(mode==2 || mode==0 && decide ((i:Int) > q.At.Row) || mode==1 && decide ((i:Int) < q.At.Row))=true from hc)]
      refine .inl ⟨_,rfl,rfl,?_⟩;simp only [eS];rw [af hc];exact v
  · obtain ⟨i',st⟩:=st
    obtain ⟨e,v⟩:=hI;simp only at e v;subst e;exact ⟨st,by simp,v⟩
theorem zD (h:Pv C s k g W q ks) (kind mode:Int):(cM (σ:=Int×(List ak)×Int×Int×Bool×Bool) (τ:=((List ak)×Int×Int×Bool×Bool)) (((q.L.length:Int) - 0).toNat+1) (fun s_23=>
 (bV (decide (s_23.1 < (s_23.2.1.length:Int))) (some (kind==4))).bind fun d_29=>
 if d_29=true then
 ((orE (mode==2) ((bV (mode==0) (some (decide (s_23.1 > s_23.2.2.1)))).bind fun d_41=>
 some d_41)).bind fun d_37=>
 (orE d_37 ((bV (mode==1) (some (decide (s_23.1 < s_23.2.2.1)))).bind fun d_52=>
 some d_52)).bind fun d_48=>
 if d_48=true then
 (cS (⟨s_23.2.1,(⟨s_23.2.2.1,s_23.2.2.2.1,s_23.2.2.2.2.1⟩:ai),s_23.2.2.2.2.2⟩:aa) s_23.1 3 0 0).bind fun x_62=>
 (some (x_62.L,x_62.At.Row,x_62.At.Col,x_62.At.Pending,x_62.Auto):Option ((List ak)×Int×Int×Bool×Bool))
 else
 (some (s_23.2.1,s_23.2.2.1,s_23.2.2.2.1,s_23.2.2.2.2.1,s_23.2.2.2.2.2):Option ((List ak)×Int×Int×Bool×Bool))).bind fun z_34=>
 some (.inl ((w64 (s_23.1+1)),z_34.1,z_34.2.1,z_34.2.2.1,z_34.2.2.2.1,z_34.2.2.2.2))
 else
 some (.inr (s_23.2.1,s_23.2.2.1,s_23.2.2.2.1,s_23.2.2.2.2.1,s_23.2.2.2.2.2))) (0,q.L,q.At.Row,q.At.Col,q.At.Pending,q.Auto))=
    some (if kind=4 then eS (cnd mode q.At.Row) q.L ks.length else q.L,q.At.Row,q.At.Col,q.At.Pending,q.Auto):=by
  have hh:=h.g.h2;have hl:=h.len;by_cases hk:kind=4
  · subst hk
    rw [ae rfl];obtain ⟨t,h1,h2⟩:=eK (σ:=Int×(List ak)×Int×Int×Bool×Bool) (τ:=((List ak)×Int×Int×Bool×Bool)) (n:=ks.length) (fuel:=((q.L.length:Int) - 0).toNat+1) (s:=(0,q.L,q.At.Row,q.At.Col,q.At.Pending,q.Auto))
      (fun i st=>st=((i:Int),eS (cnd mode q.At.Row) q.L i,q.At.Row,q.At.Col,q.At.Pending,q.Auto)∧∃s',Pv C s' k g W ⟨eS (cnd mode q.At.Row) q.L i,q.At,q.Auto⟩ ks) (fun t=>t=(eS (cnd mode q.At.Row) q.L ks.length,q.At.Row,q.At.Col,q.At.Pending,q.Auto))
      (step:=fun s_23=>
 (bV (decide (s_23.1 < (s_23.2.1.length:Int))) (some ((4:Int)==4))).bind fun d_29=>
 if d_29=true then
 ((orE (mode==2) ((bV (mode==0) (some (decide (s_23.1 > s_23.2.2.1)))).bind fun d_41=>
 some d_41)).bind fun d_37=>
 (orE d_37 ((bV (mode==1) (some (decide (s_23.1 < s_23.2.2.1)))).bind fun d_52=>
 some d_52)).bind fun d_48=>
 if d_48=true then
 (cS (⟨s_23.2.1,(⟨s_23.2.2.1,s_23.2.2.2.1,s_23.2.2.2.2.1⟩:ai),s_23.2.2.2.2.2⟩:aa) s_23.1 3 0 0).bind fun x_62=>
 (some (x_62.L,x_62.At.Row,x_62.At.Col,x_62.At.Pending,x_62.Auto):Option ((List ak)×Int×Int×Bool×Bool))
 else
 (some (s_23.2.1,s_23.2.2.1,s_23.2.2.2.1,s_23.2.2.2.2.1,s_23.2.2.2.2.2):Option ((List ak)×Int×Int×Bool×Bool))).bind fun z_34=>
 some (.inl ((w64 (s_23.1+1)),z_34.1,z_34.2.1,z_34.2.2.1,z_34.2.2.2.1,z_34.2.2.2.2))
 else
 some (.inr (s_23.2.1,s_23.2.2.1,s_23.2.2.2.1,s_23.2.2.2.2.1,s_23.2.2.2.2.2)))
      (fun i st hi hI=>by
        obtain ⟨rfl,s',v⟩:=hI;have hvl:(eS (cnd mode q.At.Row) q.L i).length=ks.length:=v.len;simp only [aY,bsm,bz];rw [ae (by simp [hvl,hi]),eJ hi (by omega)];by_cases hc:cnd mode q.At.Row i=true
        · rw [ae (show (mode==2 || mode==0 && decide ((i:Int) > q.At.Row) || mode==1 && decide ((i:Int) < q.At.Row))=true from hc)]
          have ha:=Dz v hi 3 0 0;rw [show (⟨eS (cnd mode q.At.Row) q.L i,⟨q.At.Row,q.At.Col,q.At.Pending⟩,q.Auto⟩:aa)=⟨eS (cnd mode q.At.Row) q.L i,q.At,q.Auto⟩ from rfl,ha];refine .inl ⟨_,rfl,?_,s'.sr ks[i] (ac ((eS (cnd mode q.At.Row) q.L i).getD i dl).Cells ((eS (cnd mode q.At.Row) q.L i).getD i dl).Wrap 3 0 0),?_⟩
          · simp only [eS]
            rw [ae hc]
          · simp only [eS]
            rw [ae hc];exact v.ac hi 3 0 0
        · rw [af (show ¬(mode==2 || mode==0 && decide ((i:Int) > q.At.Row) || mode==1 && decide ((i:Int) < q.At.Row))=true from hc)]
          refine .inl ⟨_,rfl,?_,s',?_⟩
          · simp only [eS]
            rw [af hc]
          · simp only [eS]
            rw [af hc];exact v)
      (fun st hI=>by
        obtain ⟨rfl,s',v⟩:=hI;have hvl:(eS (cnd mode q.At.Row) q.L ks.length).length=ks.length:=v.len;refine ⟨_,?_,rfl⟩;simp only [aY,bsm];rw [af (by simp [hvl])])
      ⟨rfl,s,h⟩ (by omega)
    rw [h1,h2]
  · rw [af hk]
    have hf:(kind==4)=false:=by simpa using hk
    rw [show ((q.L.length:Int) - 0).toNat+1=q.L.length+1 by omega];simp only [cM,hf,aY,DD,bsm,aj,aT]
theorem BX (h:Pv C s k g W q ks) {i:Nat} (hi:i < ks.length) {c:List ab} {done:Bool} {r:bf} (hc:c=r.cells) (hd:done=true→r.wrap=false) (hn:done=false→r=⟨(q.L.getD i dl).Cells,(q.L.getD i dl).Wrap⟩) {z:aa} (hz:z=q):
    (if done=true then (ce z i ⟨c,false⟩).bind fun x_172=>(some (x_172.L,x_172.At.Row,x_172.At.Col,x_172.At.Pending,x_172.Auto):Option ((List ak)×Int×Int×Bool×Bool))
     else (some (z.L,z.At.Row,z.At.Col,z.At.Pending,z.Auto):Option ((List ak)×Int×Int×Bool×Bool)))=some (q.L.set i (lt r),q.At.Row,q.At.Col,q.At.Pending,q.Auto):=by
  subst hz hc;have hl:=h.len
  cases done with
  | true=>
    rw [ae rfl,sL h hi];simp only [bsm];unfold lt;rw [hd rfl]
  | false=>
    rw [af (by simp),hn rfl];unfold lt;rw [gdl (show i < z.L.length by omega),Gu]
theorem CV {l:List ab} {w:Bool} {a b:Int}:(mvs a b l.length=true→(ish l w a b).wrap=false)∧(mvs a b l.length=false→ish l w a b=⟨l,w⟩):=by
  unfold ish;refine ⟨fun h=>by rw [ae h],fun h=>by rw [af (by rw [h]; simp)]⟩
theorem C5 {l:List ab} {w:Bool} {a b:Int}:(mvs a b l.length=true→(dsh l w a b).wrap=false)∧(mvs a b l.length=false→dsh l w a b=⟨l,w⟩):=by
  unfold dsh;refine ⟨fun h=>by rw [ae h],fun h=>by rw [af (by rw [h]; simp)]⟩
theorem Au (h:Pv C s k g W q ks) {i:Nat} (hi:i < ks.length) (hr:q.At.Row=(i:Int)) (kind:Int) {mode:Int} (hm:0≤mode∧mode≤2):∃L1,L1=q.L.set i (lt (ac (q.L.getD i dl).Cells (q.L.getD i dl).Wrap (md mode) q.At.Col 0))∧
    fw q kind mode=some ⟨if kind=4 then eS (cnd mode q.At.Row) L1 ks.length else L1,q.At,q.Auto⟩:=by
  refine ⟨_,rfl,?_⟩;unfold fw;have hidx:idx ([2,1,3]:List Int) mode=some (md mode):=by
    have:mode=0∨mode=1∨mode=2:=by omega
    rcases this with e | e | e <;> rw [e] <;> rfl
  have v:=h.ac hi (md mode) q.At.Col 0;have e0:cS q q.At.Row (md mode) q.At.Col 0=some ⟨q.L.set i (lt (ac (q.L.getD i dl).Cells (q.L.getD i dl).Wrap (md mode) q.At.Col 0)),q.At,q.Auto⟩:=by
    rw [hr];exact Dz h hi _ _ _
  rw [hidx];simp only [bsm];rw [e0];simp only [bsm];have:=zD v kind mode;simp only at this;rw [this];rfl
theorem Ev (h:Pv C s k g W q ks) (o:aS) (hw:w38 o=0):∃s' q' ks',ox s (some k) o=some (s',Er.nil)∧fK q o=some q'∧Pv C s' k g W q' ks'∧ks'.length=ks.length∧Hd q'.At W ks.length∧q'.At.Pending=false:=by
  have hh:=h.g.h2;have h1:=h.g.h1;have w1:=h.g.w1;have w2:=h.g.w2;have hkind:2≤o.Kind∧o.Kind≤12:=by
    unfold w38 at hw;split at hw
    · cases hw
    · omega
  have hmode:(o.Kind=3∨o.Kind=4)→0≤o.A∧o.A≤2:=fun e=>by
    unfold w38 at hw;rw [af (by omega)] at hw;split at hw
    · cases hw
    · omega
  have hnil:e38 o=Er.nil:=by unfold e38; rw [hw]; rfl
  have hd0:=sU q.At w1 h1;have hv:Pv C (s.sp k ⟨some g,⟨(hc q.At W ks.length).Row,(hc q.At W ks.length).Col,false⟩,q.Auto⟩) k g W ⟨q.L,⟨(hc q.At W ks.length).Row,(hc q.At W ks.length).Col,false⟩,q.Auto⟩ ks:=h.set _ _;have hd:Hd ⟨(hc q.At W ks.length).Row,(hc q.At W ks.length).Col,false⟩ W ks.length:=⟨hd0.rr,hd0.cc,fun e=>by cases e⟩;unfold ox fK;rw [vt,hnil,ol h];simp only [bsm,Er.isNil,dA,aj,aT,bJ,gn,h.p];rw [jm h.g,eL h.g];simp only [bsm];rw [oD _ w1 w2 h1 hh];simp only [bsm];rw [iT (cK h.p)];simp only [bsm];rw [iT (by simp [Sto.sp]; exact cK h.p),wt];simp only [bsm];generalize hc q.At W ks.length=c at *;obtain ⟨i,hi⟩:∃i:Nat,c.Row=(i:Int):=⟨c.Row.toNat,by have:=hd.rr; simp only at this; omega⟩;have hik:i < ks.length:=by have:=hd.rr; simp only at this; omega
  have hlen:=hv.len;simp only at hlen;obtain ⟨c1,c2,c3⟩:=c;simp only at hi hv hd;subst hi;simp only;rw [bp (show i < q.L.length by omega)];simp only [bsm];generalize s.sp k ⟨some g,⟨(i:Int),c2,false⟩,q.Auto⟩=s1 at *;obtain ⟨L,⟨_,_,_⟩,au⟩:=q;simp only at hv hlen⊢;obtain ⟨r1,r2,r3⟩:=hv.rw_ hik;simp only at r1 r2 r3;obtain ⟨kd_,A,B,bs⟩:=o;simp only at hkind hmode⊢;have hcell:L[i]'(by omega)=L.getD i dl:=(gdl (by omega)).symm;rw [hcell];have:kd_=2∨kd_=3∨kd_=4∨kd_=5∨kd_=6∨kd_=7∨kd_=8∨kd_=9∨kd_=10∨kd_=11∨kd_=12:=by omega
  have hcc:=hd.cc;simp only at hcc;rcases this with e | e | e | e | e | e | e | e | e | e | e <;> subst e <;> simp only [Int.reduceBEq,aj,aT,bv,bsm]
  ·
    unfold fY;simp only [bsm,hv.p];rw [eY hv.g hik];simp only [bsm,Int.reduceBEq,bv];rw [jm hv.g,eL hv.g];simp only [bsm];unfold jc;rw [oD _ w1 w2 h1 hh,sM hv,hlen];simp only [bsm];rw [yf _ w1 w2 h1 hh,iT (cK hv.p)];exact ⟨_,_,ks,rfl,rfl,hv.set (hc ⟨A,B,false⟩ W ks.length) au,rfl,sU _ w1 h1,by simp [hc]⟩
  ·
    have hm:=hmode (.inl rfl);obtain ⟨L1,e1,e2⟩:=Au hv hik rfl 3 hm;simp only at e1;rw [e2];unfold fY;simp only [bsm,hv.p];rw [eY hv.g hik];simp only [bsm,Int.reduceBEq,aj,aT,bv];rw [wO hv hik rfl A];refine ⟨_,_,ks,rfl,rfl,?_,rfl,hd,rfl⟩;have:=hv.ac hik (md A) c2 0;simp only at this;rw [af (by decide),e1];exact this
  ·
    have hm:=hmode (.inr rfl);obtain ⟨L1,e1,e2⟩:=Au hv hik rfl 4 hm;simp only at e1;rw [e2];unfold fY;simp only [bsm,hv.p];rw [eY hv.g hik];simp only [bsm,Int.reduceBEq,aj,aT,bv];unfold mC;rw [wO hv hik rfl A];have hv2:=hv.ac hik (md A) c2 0;simp only at hv2;rw [←e1] at hv2;simp only [bsm,hv2.p];rw [eL hv2.g];simp only [bsm];obtain ⟨s',l1,l2⟩:=xZ hv2 A rfl;rw [l1];exact ⟨_,_,ks,rfl,rfl,l2,rfl,hd,rfl⟩
  ·
    unfold fY;simp only [bsm,hv.p];rw [eY hv.g hik];simp only [bsm,Int.reduceBEq,aj,aT,bv];rw [yJ r1 r2 (by omega),Dz hv hik];exact ⟨_,_,ks,rfl,rfl,hv.ac hik 4 c2 A,rfl,hd,rfl⟩
  ·
    have hsn:=Ej (w:=(L.getD i dl).Wrap) r2 c2 A;have hlw:=Ek (l:=(L.getD i dl).Cells) (w:=(L.getD i dl).Wrap) c2 A;have hdn:=CV (l:=(L.getD i dl).Cells) (w:=(L.getD i dl).Wrap) (a:=c2) (b:=A);unfold fY;simp only [bsm,hv.p];rw [eY hv.g hik];simp only [bsm,Int.reduceBEq,aj,aT,bv];rw [A0 r1 r2 (by omega),DV (by omega) _ _ (L.getD i dl).Wrap];simp only [bsm];have:=BX hv hik (c:=(ish (L.getD i dl).Cells (L.getD i dl).Wrap c2 A).cells) (done:=mvs c2 A (L.getD i dl).Cells.length) (r:=ish (L.getD i dl).Cells (L.getD i dl).Wrap c2 A) rfl hdn.1 hdn.2 rfl;simp only at this;rw [this];exact ⟨_,_,ks,rfl,rfl,hv.row hik hsn (by rw [hlw]; exact r3),rfl,hd,rfl⟩
  ·
    have hsn:=Ey (w:=(L.getD i dl).Wrap) r2 c2 A;have hlw:=Ez (l:=(L.getD i dl).Cells) (w:=(L.getD i dl).Wrap) c2 A;have hdn:=C5 (l:=(L.getD i dl).Cells) (w:=(L.getD i dl).Wrap) (a:=c2) (b:=A);unfold fY;simp only [bsm,hv.p];rw [eY hv.g hik];simp only [bsm,Int.reduceBEq,aj,aT,bv];rw [A1 r1 r2 (by omega),DW (by omega) _ _ (L.getD i dl).Wrap];simp only [bsm];have:=BX hv hik (c:=(dsh (L.getD i dl).Cells (L.getD i dl).Wrap c2 A).cells) (done:=mvs c2 A (L.getD i dl).Cells.length) (r:=dsh (L.getD i dl).Cells (L.getD i dl).Wrap c2 A) rfl hdn.1 hdn.2 rfl;simp only at this;rw [this];exact ⟨_,_,ks,rfl,rfl,hv.row hik hsn (by rw [hlw]; exact r3),rfl,hd,rfl⟩
  ·
    obtain ⟨s',ks',u1,⟨u2,u3,u4,u5⟩,u6,u7⟩:=yK hv.g hv.nd (i:Int) (ks.length:Int) A;have hm:=qs (W:=W) (L:=L) (by omega) w2 (fun x hx=>(hv.ok x hx).2) (i:Int) (ks.length:Int) A false;rw [hlen] at hm⊢;unfold iX;simp only [bsm,hv.p];rw [eL hv.g];simp only [bsm,Int.reduceBEq,aj,aT,bv];rw [u1,hm];have hp:s'.place_Pen[k]? = some ⟨some g,⟨(i:Int),c2,false⟩,au⟩:=by rw [kz u6]; exact hv.p
    simp only [bsm,hp,dw];rw [iT (cK hp)];refine ⟨_,_,ks',rfl,rfl,⟨wW (cK hp),u2.sp _ _,u3,?_,(qQ u6).trans hv.o,(hv.f.step u7 (kz u6)).sp _⟩,u4,⟨hd.rr,by simp only; omega,fun e=>by cases e⟩,rfl⟩;exact u5.trans (by rw [hv.l])
  ·
    obtain ⟨s',ks',u1,⟨u2,u3,u4,u5⟩,u6,u7⟩:=zk hv.g hv.nd (i:Int) (ks.length:Int) A;have hm:=qs (W:=W) (L:=L) (by omega) w2 (fun x hx=>(hv.ok x hx).2) (i:Int) (ks.length:Int) A true;rw [hlen] at hm⊢;unfold iX;simp only [bsm,hv.p];rw [eL hv.g];simp only [bsm,Int.reduceBEq,aj,aT,bv];rw [u1,hm];have hp:s'.place_Pen[k]? = some ⟨some g,⟨(i:Int),c2,false⟩,au⟩:=by rw [kz u6]; exact hv.p
    simp only [bsm,hp,dw];rw [iT (cK hp)];refine ⟨_,_,ks',rfl,rfl,⟨wW (cK hp),u2.sp _ _,u3,?_,(qQ u6).trans hv.o,(hv.f.step u7 (kz u6)).sp _⟩,u4,⟨hd.rr,by simp only; omega,fun e=>by cases e⟩,rfl⟩;exact u5.trans (by rw [hv.l])
  ·
    obtain ⟨s',ks',u1,⟨u2,u3,u4,u5⟩,u6,u7⟩:=zk hv.g hv.nd 0 (ks.length:Int) A;have hm:=qs (W:=W) (L:=L) (by omega) w2 (fun x hx=>(hv.ok x hx).2) 0 (ks.length:Int) A true;rw [hlen] at hm⊢;unfold iX;simp only [bsm,hv.p];rw [eL hv.g];simp only [bsm,Int.reduceBEq,aj,aT,bv];rw [u1,hm];refine ⟨_,_,ks',rfl,rfl,⟨by rw [kz u6]; exact hv.p,u2,u3,?_,(qQ u6).trans hv.o,hv.f.step u7 (kz u6)⟩,u4,hd,rfl⟩;exact u5.trans (by rw [hv.l])
  ·
    obtain ⟨s',ks',u1,⟨u2,u3,u4,u5⟩,u6,u7⟩:=yK hv.g hv.nd 0 (ks.length:Int) A;have hm:=qs (W:=W) (L:=L) (by omega) w2 (fun x hx=>(hv.ok x hx).2) 0 (ks.length:Int) A false;rw [hlen] at hm⊢;unfold iX;simp only [bsm,hv.p];rw [eL hv.g];simp only [bsm,Int.reduceBEq,aj,aT,bv];rw [u1,hm];refine ⟨_,_,ks',rfl,rfl,⟨by rw [kz u6]; exact hv.p,u2,u3,?_,(qQ u6).trans hv.o,hv.f.step u7 (kz u6)⟩,u4,hd,rfl⟩;exact u5.trans (by rw [hv.l])
  ·
    unfold fY;simp only [bsm,hv.p];rw [eY hv.g hik];simp only [bsm,Int.reduceBEq,aj,aT,bv];rw [iT (cK hv.p)];exact ⟨_,_,ks,rfl,rfl,hv.set ⟨(i:Int),c2,false⟩ (A != 0),rfl,hd,rfl⟩
end Go.Proofs.YtclmdpamofdoiaaGreatDoor
namespace Go.Proofs.YtclmdpamofdoiaaGreatDoor
open Go Go.Lt
variable {s C:Sto} {g k W:Nat} {ks:List Nat} {q:aa} {l:List ab}
def rzc (l:List ab) (w j:Nat):ab:=if j < l.length∧(j+1 < w∨kd l j≠2) then l.getD j bl else bl
def rz (l:List ab) (w:Nat):List ab:=(List.range w).map (rzc l w)
theorem tD (l:List ab) (w:Nat):(rz l w).length=w:=by simp [rz]
theorem xa {w j:Nat} (h:j < w):(rz l w)[j]? = some (rzc l w j):=by simp [rz,h]
theorem EZ {w j:Nat} (h:j < w):kd (rz l w) j=(rzc l w j).Kind:=by simp [kd,xa h]
theorem wZ (l:List ab) (w j:Nat):(rzc l w j).Kind=if j < l.length∧(j+1 < w∨kd l j≠2) then kd l j else 0:=by
 unfold rzc;split
 ·exact nf l j
 ·rfl
theorem Ch (hs:Snd l) (w:Nat):Snd (rz l w):=fun j hj=>by
 have hjw:j < w:=by rw [tD] at hj; exact hj
 have e:(rz l w)[j]=rzc l w j:=by
  have:=xa (l:=l) hjw;rw [ah hj] at this;exact bm this
 rw [e];refine ⟨?_,fun h2=>?_,fun h3=>?_⟩
 ·unfold rzc;split
  ·rename_i h; exact hs.rg h.1
  ·rfl
 ·rw [wZ] at h2;split at h2
  ·rename_i h
   have h4:=hs.two h2;have h5:j+1 < l.length:=ui (by rw [h4]; decide);have h6:j+1 < w:=by omega
   rw [EZ h6,wZ,ae ⟨h5,.inr (by rw [h4]; decide)⟩,h4]
  ·cases h2
 ·rw [wZ] at h3;split at h3
  ·rename_i h
   obtain ⟨h4,h5⟩:=hs.three h3;have h6:j - 1 < l.length:=by omega
   refine ⟨h4,?_⟩;rw [EZ (by omega),wZ,ae ⟨h6,.inl (by omega)⟩,h5]
  ·cases h3
theorem Fo (w:Nat):rz [] w=List.replicate w bl:=by
 refine cm fun j=>?_;rcases aN j w with h | h
 ·rw [xa h,nb,ae h];unfold rzc;rw [af (by simp)]
 ·rw [aZ (by rw [tD]; exact h),aZ (by simpa using h)]
theorem Eu {n:Nat} (hn:n≤l.length) (hl:l.length≤1024):ow l n=some (if 0 < n∧kd l (n - 1)=2 then (l.take n).set (n - 1) bl else l.take n):=by
 unfold ow;rw [show (0:Int)=((0:Nat):Int) from rfl,nP (cw _) hn,jx,nz];simp only [bsm];by_cases h0:0 < n
 ·have e:w64 ((n:Int) - 1)=((n - 1:Nat):Int):=by rw [aF (by omega)]; omega
  have hlt:n - 1 < (l.take n).length:=by simp; omega
  have hk:(l.take n)[n - 1].Kind=kd l (n - 1):=by rw [List.getElem_take,kK (by omega)]
  rw [show decide ((n:Int) > ((0:Nat):Int))=true by simpa using h0,e,bp hlt];simp only [iR,bsm,hk];by_cases h2:kd l (n - 1)=2
  ·rw [ae (by simpa using h2),ae ⟨h0,h2⟩,kR hlt];rfl
  ·rw [af (by simpa using h2),af (fun h=>h2 h.2)];rfl
 ·rw [show decide ((n:Int) > ((0:Nat):Int))=false by simpa using h0,af (fun h=>h0 h.1)];simp only [ik,bsm,aj,aT]
theorem F3 (hs:Snd l) {w n:Nat} (hn:n=min w l.length) (w1:1≤w) (l1:1≤l.length):(if 0 < n∧kd l (n - 1)=2 then (l.take n).set (n - 1) bl else l.take n)++List.replicate (w - n) bl=rz l w:=by
 have hlen:(if 0 < n∧kd l (n - 1)=2 then (l.take n).set (n - 1) bl else l.take n).length=n:=by split <;> simp <;> omega
 refine cm fun j=>?_;rcases aN j w with h | h
 ·rw [xa h];rcases aN j n with hj | hj
  ·rw [aI (by omega)];have hjl:j < l.length:=by omega
   have g:l.getD j bl=l[j]:=by rw [av,ah hjl]; rfl
   unfold rzc;split
   ·rename_i h2
    rw [lD];by_cases e:n - 1=j
    ·subst e;rw [ae rfl,ae (by simp; omega),af];rintro ⟨_,h5 | h5⟩
     ·have:=hs.two h2.2;have:=ui (l:=l) (j:=n - 1+1) (by omega);omega
     ·exact h5 h2.2
    ·rw [af e,aR,ae hj,ah hjl,ae ⟨hjl,by omega⟩,g]
   ·rename_i h2
    rw [aR,ae hj,ah hjl,ae,g];refine ⟨hjl,?_⟩;by_cases e:j+1 < w
    ·exact .inl e
    ·right
     intro h3;exact h2 ⟨by omega,by rw [show n - 1=j by omega]; exact h3⟩
  ·rw [bh (by omega),hlen,nb,ae (by omega)];unfold rzc;rw [af (by omega)]
 ·rw [aZ (by rw [aA,hlen,lv]; omega),aZ (by rw [tD]; exact h)]
theorem zJ {wr:Bool} (h:s.row_Row[k]? = some ⟨l,wr⟩) (hs:Snd l) (l1:1≤l.length) (l2:l.length≤1024) {w:Nat} (w1:1≤w) (w2:w≤1024):
  jE s (some k) w=some (s.add_row_Row ⟨rz l w,false⟩,some s.row_Row.length):=by
 have e1:aE 1 (aB (w:Int) 1024)=(w:Int):=by rw [dx,eX]; omega
 unfold jE;rw [e1];simp only [bJ,aj,aT,qR h (by omega) hs.sht,jl h,bsm];obtain ⟨n,hn⟩:∃n,n=min w l.length:=⟨_,rfl⟩;rw [show aB (w:Int) (l.length:Int)=(n:Int) by rw [dx]; omega,Eu (by omega) l2];have hlen:(if 0 < n∧kd l (n - 1)=2 then (l.take n).set (n - 1) bl else l.take n).length=n:=by split <;> simp <;> omega
 have hcr:=F3 hs hn w1 l1;generalize (if 0 < n∧kd l (n - 1)=2 then (l.take n).set (n - 1) bl else l.take n)=c at *;simp only [bsm];rw [hlen,aF (by omega),tY];simp only [bsm];rw [show (max 0 (min ((w:Int) - (n:Int)) 1024)).toNat=w - n by omega,cR (by simp; omega),hcr];simp only [bsm];unfold sX;rw [Fp (by rw [tD]; exact w1) (by rw [tD]; exact w2) (Ch hs w)];rfl
theorem zv (l:List ab) (hl:l.length≤1000000) {w:Nat} (w1:1≤w) (w2:w≤1024):dW l w=some (rz l w):=by
 have e1:aE 1 (aB (w:Int) 1024)=(w:Int):=by rw [dx,eX]; omega
 unfold dW;rw [e1,nQ _ (by omega),show (⟨0,[]⟩:ab)=bl from rfl,bT];simp only [bsm];obtain ⟨t,h3,h4⟩:=eK (σ:=(List ab)×Int) (τ:=(List ab)) (n:=min w l.length) (fuel:=((w:Int) - 0).toNat+1) (s:=(List.replicate w bl,0))
  (fun i q=>q=((List.range w).map (fun j=>if j < i then rzc l w j else bl),(i:Int))) (fun t=>t=rz l w)
  (step:=fun s_14=>
 (bV (decide (s_14.2 < (w:Int))) (some (decide (s_14.2 < (l.length:Int))))).bind fun d_18=>
 if d_18=true then
 ((orE (decide ((w64 (s_14.2+1)) < (w:Int))) ((idx l s_14.2).bind fun x_34=>
 some (x_34.Kind != 2))).bind fun d_30=>
 if d_30=true then
 (idx l s_14.2).bind fun x_43=>
 (idx s_14.1 s_14.2).bind fun x_45=>
 (oQ s_14.1 s_14.2 x_43).bind fun w_46=>
 (some (w_46):Option ((List ab)))
 else
 (some (s_14.1):Option ((List ab)))).bind fun z_25=>
 some (.inl (z_25,(w64 (s_14.2+1))))
 else
 some (.inr (s_14.1)))
  (fun i q hi e=>by
   subst e;refine .inl ⟨_,?_,rfl⟩;have e5:w64 ((i:Int)+1)=((i+1:Nat):Int):=by rw [aF (by omega)]; simp
   have hil:i < l.length:=by omega
   have hd:(decide ((i:Int) < (w:Int)) && decide ((i:Int) < (l.length:Int)))=true:=by simp; omega
   have hlt:i < ((List.range w).map (fun j=>if j < i then rzc l w j else bl)).length:=by simp; omega
   have ho:(orE (decide (((i+1:Nat):Int) < (w:Int))) ((idx l (i:Int)).bind fun x_34=>some (x_34.Kind != 2)))=some (decide (i+1 < w∨kd l i≠2)):=by
    rw [bp hil];simp only [bsm,bz,←kK hil,aQ];rw [ck];simp only [aD,am,mV];omega
   simp only [aY,bsm,hd,bv,e5];rw [ho];simp only [bsm];have hnext:∀c:ab,c=rzc l w i→((List.range w).map (fun j=>if j < i then rzc l w j else bl)).set i c=(List.range w).map (fun j=>if j < i+1 then rzc l w j else bl):=fun c hc=>by
    refine cm fun j=>?_;rw [lD];by_cases e:i=j
    ·subst e;rw [ae rfl,ae hlt,bF,dv (by omega),hc];simp
    ·rw [af e,bF,bF];rcases aN j w with hj | hj
     ·rw [dv hj];simp only [fp,aQ];by_cases h5:j < i
      ·rw [ae h5,ae (by omega)]
      ·rw [af h5,af (by omega)]
     ·rw [aZ (by simpa using hj)];rfl
   by_cases hc:i+1 < w∨kd l i≠2
   ·rw [ae (by simpa using hc),bp hil,bp hlt];simp only [bsm];rw [kR hlt,hnext l[i] (by
     unfold rzc;rw [ae ⟨hil,hc⟩,av,ah hil];rfl)]
    rfl
   ·rw [af (by simpa using hc)];simp only [bsm];have hb:rzc l w i=bl:=by
     unfold rzc;rw [af (fun h=>hc h.2)]
    have:=hnext bl hb.symm;rw [←this]
    congr 3
    refine (cm fun j=>?_).symm;rw [lD];by_cases e:i=j
    ·subst e;rw [ae rfl,ae hlt,bF,dv (by omega)];simp
    ·rw [af e])
  (fun q e=>⟨q.1,by
   subst e;have hd:(decide (((min w l.length:Nat):Int) < (w:Int)) && decide (((min w l.length:Nat):Int) < (l.length:Int)))=false:=by
    rw [zj];simp only [wG,aq,am];omega
   simp only [aY,bsm,hd,aj,aT],by
   subst e;simp only;unfold rz;refine du fun j hj=>?_;rw [List.mem_range] at hj;by_cases h5:j < min w l.length
   ·rw [ae h5]
   ·rw [af h5];unfold rzc;rw [af (by omega)]⟩)
  (by
   simp only [BV,aT,gU];refine ⟨?_,rfl⟩;rw [Ip,rO]) (by omega)
 subst h4;rw [h3];rfl
def cs (L:List ak) (n:Nat):List ab:=(L.getD n ⟨[],false⟩).Cells
def rs (L:List ak) (top w h:Nat):List ak:=(List.range h).map fun m=>⟨rz (cs L (top+m)) w,false⟩
def rsi (L:List ak) (top w h i:Nat):List ak:=(List.range h).map fun m=>if m < i then ⟨rz (cs L (top+m)) w,false⟩ else ⟨List.replicate w bl,false⟩
theorem zM {L:List ak} {n:Nat} (h:L.length≤n):cs L n= []:=by
 unfold cs;rw [av,aZ h];rfl
theorem C8 {L:List ak} {n:Nat} (h:n < L.length):cs L n=L[n].Cells:=by
 unfold cs;rw [av,ah h];rfl
theorem Ak (L:List ak) (top w:Nat) {h i:Nat} (hi:i < h):(rsi L top w h i).set i ⟨rz (cs L (top+i)) w,false⟩=rsi L top w h (i+1):=by
 unfold rsi;refine cm fun j=>?_;rw [lD,dh,rO];by_cases e:i=j
 ·subst e;rw [ae rfl,ae hi,bF,dv hi];simp
 ·rw [af e,bF,bF];rcases aN j h with hj | hj
  ·rw [dv hj];simp only [fp,aQ];by_cases h5:j < i
   ·rw [ae h5,ae (by omega)]
   ·rw [af h5,af (by omega)]
  ·rw [aZ (by simpa using hj)];rfl
theorem Cn (L:List ak) {top w h i:Nat} (ho:L.length≤top+i) (hi:i < h):rsi L top w h (i+1)=rsi L top w h i:=by
 rw [←Ak L top w hi,zM ho,Fo];refine cm fun j=>?_;rw [lD];by_cases e:i=j
 ·subst e;unfold rsi;rw [ae rfl,ae (by simp; exact hi),bF,dv hi];simp
 ·rw [af e]
theorem DT (L:List ak) (top w h:Nat):rsi L top w h h=rs L top w h:=by
 unfold rsi rs;refine du fun m hm=>?_;rw [List.mem_range] at hm;rw [ae hm]
theorem Cm (L:List ak) (top w h:Nat):rsi L top w h 0=bls w h:=by
 unfold rsi bls;simp only [BV,aT];rw [Ip,rO]
theorem FG {xs:List Nat} (nd:xs.Nodup) {x i:Nat} (hx:x∉xs):(xs.set i x).Nodup:=by
 rw [List.Nodup,List.pairwise_iff_getElem] at *;intro a b ha hb hab;rw [cq] at ha hb;rw [Ic,Ic];split
 ·split
  ·omega
  ·exact fun e=>hx (e▸ aH hb)
 ·split
  ·exact fun e=>hx (e▸ aH ha)
  ·exact nd a b ha hb hab
theorem Gw.sgo {g2:Nat} (h:Gw s g ks W) (hne:g2≠g) (x:bZ):Gw (s.sg g2 x) g ks W:=
 ⟨by rw [←h.g]; simp [Sto.sg,aW hne],h.r,h.h1,h.h2,h.w1,h.w2⟩
theorem Gw.addg (h:Gw s g ks W) (x:bZ):Gw (s.add_grid_Grid x) g ks W:=
 ⟨by rw [←h.g]; simp only [Sto.add_grid_Grid]; exact aI (cK h.g),h.r,h.h1,h.h2,h.w1,h.w2⟩
theorem Rf.more {s':Sto} {g2:Nat} {ks':List Nat} (h:Rf s s' g ks g2 ks') (hg2:s.grid_Grid.length≤g2) (xs:List bf) (x:bZ) (i:Nat):Rf s ((s'.addr xs).sg g2 x) g ks g2 (ks'.set i s'.row_Row.length):=by
 have e:((s'.addr xs).sg g2 x).row_Row=s'.row_Row++xs:=rfl;have e2:((s'.addr xs).sg g2 x).grid_Grid=s'.grid_Grid.set g2 x:=rfl;have hr:=h.rl;refine ⟨by rw [e2,cq]; exact h.gl,by rw [e,aA]; omega,fun j a b=>by rw [e2,aW (by omega)]; exact h.gr j a b,fun j a b=>by rw [e,aI (by omega)]; exact h.rw j a b,h.ng,fun r hr=>?_⟩;rcases DE hr with q | rfl
 ·exact h.nr r q
 ·exact .inr h.rl
theorem Rf.begun (xs:List bf) (x:bZ) {g2:Nat} (hg2:g2=s.grid_Grid.length) (m:Nat):Rf s ((s.addr xs).add_grid_Grid x) g ks g2 (List.range' s.row_Row.length m):=by
 subst hg2;refine ⟨by simp [Sto.add_grid_Grid,Sto.addr],by simp [Sto.add_grid_Grid,Sto.addr],fun j hj _=>?_,fun j hj _=>?_,.inr (az _),fun r hr=> .inr (List.mem_range'_1.1 hr).1⟩
 ·simp only [Sto.add_grid_Grid,Sto.addr]; exact aI hj
 ·simp only [Sto.add_grid_Grid,Sto.addr]; exact aI hj
theorem AZ (h:Pv C s k g W q ks) {w hh top:Nat} (w1:1≤w) (w2:w≤1024) (h1:1≤hh) (h2:hh≤1024) (ht:top≤1024) {g2:Nat} (hg2:g2=s.grid_Grid.length):
  ∃s' ks',cM (σ:=Int×Sto) (τ:=Sto) (((hh:Int) - 0).toNat+1) (fun s_54=>
 if (decide (s_54.1 < (hh:Int)))=true then
 ((s_54.2.place_Pen[k]?).bind fun o_64=>
 (bA s_54.2 o_64.G (w64 ((top:Int)+s_54.1))).bind fun x_68=>
 if (!x_68.isNone)=true then
 (jE s_54.2 x_68 (w:Int)).bind fun x_78=>
 (eD x_78.1 (some g2) s_54.1 x_78.2).bind fun x_79=>
 (some (x_79.1):Option (Sto))
 else
 (some (s_54.2):Option (Sto))).bind fun z_57=>
 some (.inl ((w64 (s_54.1+1)),z_57))
 else
 some (.inr (s_54.2))) (0,(s.addr ((bls w hh).map lr)).add_grid_Grid ⟨(List.range' s.row_Row.length hh).map some⟩)=some s'∧
  Gw s' g2 ks' w∧ks'.Nodup∧ks'.map (ln s')=rs q.L top w hh∧s'.rst=s.rst∧Rf s s' g ks g2 ks':=by
 have hb:(bls w hh).length=hh:=by simp [bls]
 have h0:((bls w hh)[0]'(by omega)).Cells.length=w:=by simp [bls]
 obtain ⟨b1,b2⟩:=E0 (s:=s) (L:=bls w hh) (by omega) (by omega) (Dk w1 w2 h1);rw [h0,←hg2] at b1;rw [hb] at b1 b2;have hgl:=cK h.g.g;obtain ⟨t,e1,e2⟩:=eK (σ:=Int×Sto) (τ:=Sto) (n:=hh) (fuel:=((hh:Int) - 0).toNat+1) (s:=(0,(s.addr ((bls w hh).map lr)).add_grid_Grid ⟨(List.range' s.row_Row.length hh).map some⟩))
  (fun i q2=>q2.1=(i:Int)∧q2.2.rst=s.rst∧Gw q2.2 g ks W∧ks.map (ln q2.2)=q.L∧∃ks',Gw q2.2 g2 ks' w∧ks'.Nodup∧ks'.length=hh∧ks'.map (ln q2.2)=rsi q.L top w hh i∧Rf s q2.2 g ks g2 ks')
  (fun t=>t.rst=s.rst∧∃ks',Gw t g2 ks' w∧ks'.Nodup∧ks'.map (ln t)=rs q.L top w hh∧Rf s t g ks g2 ks')
  (step:=fun s_54=>
 if (decide (s_54.1 < (hh:Int)))=true then
 ((s_54.2.place_Pen[k]?).bind fun o_64=>
 (bA s_54.2 o_64.G (w64 ((top:Int)+s_54.1))).bind fun x_68=>
 if (!x_68.isNone)=true then
 (jE s_54.2 x_68 (w:Int)).bind fun x_78=>
 (eD x_78.1 (some g2) s_54.1 x_78.2).bind fun x_79=>
 (some (x_79.1):Option (Sto))
 else
 (some (s_54.2):Option (Sto))).bind fun z_57=>
 some (.inl ((w64 (s_54.1+1)),z_57))
 else
 some (.inr (s_54.2)))
  (fun i q2 hi ⟨e,hp,hg,hl,ks',c1,c2,c3,c4,c5⟩=>by
   obtain ⟨j,st⟩:=q2;simp only at e hp hg hl c1 c2 c3 c4 c5;subst e;have e5:w64 ((i:Int)+1)=((i+1:Nat):Int):=by rw [aF (by omega)]; simp
   have e6:w64 ((top:Int)+(i:Int))=((top+i:Nat):Int):=by rw [aF (by omega)]; simp
   have hd:decide ((i:Int) < (hh:Int))=true:=by simp; exact hi
   simp only [hd,bv,kz hp,h.p,bsm,e5,e6];have hlen:=h.len;by_cases ho:top+i < ks.length
   ·rw [eY hg ho];simp only [bsm,bJ,eA,bv];obtain ⟨r,r1,r2,r3⟩:=hg.at ho;have hr:=zJ (l:=r.cells) (wr:=r.wrap) r1 r2 (by rw [r3]; exact hg.w1) (by rw [r3]; exact hg.w2) w1 w2;rw [hr];simp only [bsm];have ea:st.add_row_Row ⟨rz r.cells w,false⟩=st.addr [⟨rz r.cells w,false⟩]:=by simp [Sto.add_row_Row,Sto.addr]
    rw [ea];have c1':=c1.addr (xs:=[⟨rz r.cells w,false⟩]);have hg':=hg.addr (xs:=[⟨rz r.cells w,false⟩]);have hnew:(st.addr [⟨rz r.cells w,false⟩]).row_Row[st.row_Row.length]? = some ⟨rz r.cells w,false⟩:=by simp [Sto.addr]
    have hrw:Rw (st.addr [⟨rz r.cells w,false⟩]) w st.row_Row.length:=⟨_,hnew,Ch r2 w,tD _ _⟩;rw [yC c1' (show i < ks'.length by omega) hrw];simp only [bsm];have hL:cs q.L (top+i)=r.cells:=by
     rw [C8 (by rw [←hl]; simpa using ho)];have:q.L[top+i]? = (ks.map (ln st))[top+i]? :=by rw [hl]
     rw [ah (by rw [←hl]; simpa using ho),bF,ah ho,fp,nj r1] at this;rw [bm this]
    refine .inl ⟨_,rfl,rfl,hp,hg'.sgo (by omega) _,?_,ks'.set i st.row_Row.length,c1'.set hrw,FG c2 fun hm=>absurd (c1.r _ hm).lt (Nat.lt_irrefl _),by rw [cq]; exact c3,?_,c5.more (by omega) _ _ _⟩
    ·rw [←hl];refine du fun x hx=>?_;rw [yw];exact vi (hg.r x hx).lt
    ·rw [←Ak _ _ _ hi,←c4,hL,List.map_set,yw,nj hnew]
     congr 1
     refine du fun x hx=>?_;rw [yw];exact vi (c1.r x hx).lt
   ·rw [sW hg (.inr (by omega))];simp only [bsm,Option.isNone_none,dA,aj,aT];exact .inl ⟨_,rfl,rfl,hp,hg,hl,ks',c1,c2,c3,by rw [Cn _ (by omega) hi]; exact c4,c5⟩)
  (fun q2 ⟨e,hp,_,_,ks',c1,c2,_,c4,c5⟩=>⟨q2.2,by
   have hd:decide (q2.1 < (hh:Int))=false:=by rw [e]; simp
   simp only [hd,aj,aT],hp,ks',c1,c2,by rw [c4,DT],c5⟩)
  ⟨rfl,rfl,(h.g.addr (xs:=(bls w hh).map lr)).addg _,by
   rw [←h.l];refine du fun x hx=>?_;exact vi (h.g.r x hx).lt,_,b1,HZ,by simp,by rw [Cm]; exact b2,Rf.begun _ _ hg2 _⟩ (by omega)
 obtain ⟨p1,ks',p2,p3,p4,p5⟩:=e2;exact ⟨t,ks',e1,p2,p3,p4,p1,p5⟩
def tp (c:ai) (h:Nat):Nat:=(c.Row - h+1).toNat
theorem GL (h:Pv C s k g W q ks) (a b:Int):dq q a b=some ⟨rs q.L (tp (hc q.At W ks.length) (sd b)) (sd a) (sd b),⟨(hc q.At W ks.length).Row - tp (hc q.At W ks.length) (sd b),min (hc q.At W ks.length).Col ((sd a:Int) - 1),false⟩,q.Auto⟩:=by
 have hd:=sU q.At h.g.w1 h.g.h1;have hl:=h.len;have hh2:=h.g.h2;have ha:=sI a;have hb:=sI b;have side:∀n:Int,bY n=some (sd n:Int):=fun n=>by
  unfold bY;by_cases h1:n < 1
  ·rw [ae (by simpa using h1)]
   congr 1
   unfold sd;omega
  ·rw [af (by simpa using h1)];by_cases h2:n > 1024
   ·rw [ae (by simpa using h2)]
    congr 1
    unfold sd;omega
   ·rw [af (by simpa using h2)]
    congr 1
    unfold sd;omega
 unfold dq;rw [ol h];generalize hc q.At W ks.length=c at *;have hr:=hd.rr;simp only [bsm,side];obtain ⟨t,e1,e2⟩:=eK (σ:=(List ak)×Int) (τ:=((List ak)×Int)) (n:=tp c (sd b)) (fuel:=(c.Row - (sd b:Int)).toNat+2) (s:=(q.L,c.Row))
  (fun i q2=>q2=(q.L.drop i,c.Row - i)) (fun t=>t=(q.L.drop (tp c (sd b)),c.Row - tp c (sd b)))
  (step:=fun s_25=>
 if (decide (s_25.2≥(sd b:Int)))=true then
 (slc s_25.1 1 s_25.1.length).bind fun x_32=>
 some (.inl (x_32,(w64 (s_25.2 - 1))))
 else
 some (.inr (s_25.1,s_25.2)))
  (fun i q2 hi e=>by
   subst e;refine .inl ⟨_,?_,rfl⟩;unfold tp at hi;have hd:decide (c.Row - (i:Int)≥(sd b:Int))=true:=by simp; omega
   simp only [hd,bv];rw [show (1:Int)=((1:Nat):Int) from rfl,nP (by simp; omega) (az _),aF (by omega)];simp only [bsm,dm];rw [aC (by simp; omega)]
   congr 3
   omega)
  (fun q2 e=>⟨q2,by
   subst e;have hd:decide (c.Row - (tp c (sd b):Int)≥(sd b:Int))=false:=by
    unfold tp;simp;omega
   simp only [hd,aj,aT],e⟩)
  (by simp) (by unfold tp; omega)
 subst e2;rw [e1];simp only [bsm];obtain ⟨t,e3,e4⟩:=eK (σ:=(List ak)×Int) (τ:=(List ak)) (n:=sd b) (fuel:=((sd b:Int) - 0).toNat+1) (s:=(([]:List ak),0))
  (fun i q2=>q2=((rs q.L (tp c (sd b)) (sd a) (sd b)).take i,(i:Int))) (fun t=>t=rs q.L (tp c (sd b)) (sd a) (sd b))
  (step:=fun s_45=>
 if (decide (s_45.2 < (sd b:Int)))=true then
 (if (decide (s_45.2 < ((q.L.drop (tp c (sd b))).length:Int)))=true then
 (idx (q.L.drop (tp c (sd b))) s_45.2).bind fun x_60=>
 (some (x_60.Cells):Option ((List ab)))
 else
 (some (([]:List ab)):Option ((List ab)))).bind fun z_52=>
 (dW z_52 (sd a:Int)).bind fun x_68=>
 (app s_45.1 ([(⟨x_68,false⟩:ak)]:List ak)).bind fun x_71=>
 some (.inl (x_71,(w64 (s_45.2+1))))
 else
 some (.inr (s_45.1)))
  (fun i q2 hi e=>by
   subst e;refine .inl ⟨_,?_,rfl⟩;have e5:w64 ((i:Int)+1)=((i+1:Nat):Int):=by rw [aF (by omega)]; simp
   have hd:decide ((i:Int) < (sd b:Int))=true:=by simp; exact hi
   have hz:(if (decide ((i:Int) < ((q.L.drop (tp c (sd b))).length:Int)))=true then (idx (q.L.drop (tp c (sd b))) (i:Int)).bind fun x_60=>(some (x_60.Cells):Option ((List ab))) else (some (([]:List ab)):Option ((List ab))))=some (cs q.L (tp c (sd b)+i)):=by
    by_cases ho:i < (q.L.drop (tp c (sd b))).length
    ·rw [ae (by simpa using ho),bp ho];have ho2:tp c (sd b)+i < q.L.length:=by simp at ho; omega
     rw [C8 ho2];simp only [bsm,List.getElem_drop]
    ·rw [af (by simpa using ho),zM (by simp at ho; omega)]
   simp only [hd,bv,e5];rw [hz];simp only [bsm];have hcl:(cs q.L (tp c (sd b)+i)).length≤1000000:=by
    by_cases ho:tp c (sd b)+i < q.L.length
    ·rw [C8 ho,(h.ok _ (aH ho)).2];have:=h.g.w2;omega
    ·rw [zM (by omega)];simp
   rw [zv _ hcl ha.1 ha.2];simp only [bsm];have hlt:i < (rs q.L (tp c (sd b)) (sd a) (sd b)).length:=by simp [rs]; exact hi
   rw [cR (by simp; omega),ax hlt];simp [rs])
  (fun q2 e=>⟨q2.1,by subst e; simp,by subst e; simp only; rw [aC (by simp [rs])]⟩)
  (by simp) (by omega)
 subst e4;rw [e3];simp only [bsm];rw [aF (by omega),dx]
theorem DN (h:Pv C s k g W q ks) (a b:Int):∃s' q' g' ks',kV s (some k) a b=some s'∧dq q a b=some q'∧Pv C s' k g' (sd a) q' ks'∧q'.L=rs q.L (tp (hc q.At W ks.length) (sd b)) (sd a) (sd b)∧Hd q'.At (sd a) (sd b):=by
 have hd:=sU q.At h.g.w1 h.g.h1;have hh2:=h.g.h2;have ha:=sI a;have hb:=sI b;have sdd:∀n:Int,aE 1 (aB n 1024)=(sd n:Int):=fun n=>by
  rw [dx,eX];unfold sd;omega
 have hc1:=oD q.At h.g.w1 h.g.w2 h.g.h1 h.g.h2;have h39:=GL h a b;generalize hc q.At W ks.length=c at *;have hr:=hd.rr;have hcc:=hd.cc;have etp:aE 0 (w64 ((w64 (c.Row - (sd b:Int)))+1))=(tp c (sd b):Int):=by
  rw [aF (n:=c.Row - (sd b:Int)) (by omega),aF (by omega),eX];unfold tp;omega
 obtain ⟨s',ks',e1,g1,g2,g3,g4,g5⟩:=AZ h ha.1 ha.2 hb.1 hb.2 (top:=tp c (sd b)) (by unfold tp; omega) rfl;have hgn:=yD (s:=s) (sd a:Int) (sd b:Int);rw [Aj ha.1 ha.2,Aj hb.1 hb.2] at hgn;have hp':s'.place_Pen[k]? = some ⟨some g,q.At,q.Auto⟩:=by rw [kz g4]; exact h.p
 have hmv:jc (c.Row - (tp c (sd b):Int)) c.Col (sd a:Int) (sd b:Int)=some ⟨c.Row - tp c (sd b),min c.Col ((sd a:Int) - 1),false⟩:=by
  unfold jc;rw [oD _ ha.1 ha.2 hb.1 hb.2];simp only [bsm,hc,aQ,ai.mk.injEq,mb,vP];unfold tp;omega
 refine ⟨(s'.sp k ⟨some s.grid_Grid.length,q.At,q.Auto⟩).sp k ⟨some s.grid_Grid.length,⟨c.Row - tp c (sd b),min c.Col ((sd a:Int) - 1),false⟩,q.Auto⟩,_,s.grid_Grid.length,ks',?_,h39,?_,rfl,⟨by simp only; unfold tp; omega,by simp only; omega,fun e=>by cases e⟩⟩
 ·unfold kV;simp only [bJ,gn,bsm,h.p,aj,aT];rw [jm h.g,eL h.g];simp only [bsm,sdd];rw [hc1];simp only [bsm];rw [hgn];simp only [bsm,etp];rw [e1];simp only [bsm,hp'];rw [iT (cK hp')];simp only [bsm];rw [aF (by unfold tp; omega),hmv];simp only [bsm];rw [iT (by simp [Sto.sp]; exact cK hp')];rfl
 ·rw [wt];exact ⟨wW (cK hp'),g1.sp _ _,g2,g3,(qQ g4).trans h.o,(h.f.step g5 (kz g4)).sp _⟩
end Go.Proofs.YtclmdpamofdoiaaGreatDoor
namespace Go.Proofs.YtclmdpamofdoiaaGreatDoor
open Go Go.Lt
variable {s C:Sto} {x f k g W H:Nat} {q P:aa} {ks:List Nat} {op:Option Nat}
structure Mo where
 P:aa
 G:List Int
 h:List Int
structure Sd (C s:Sto) (x f k:Nat) (m:Mo) (q:aa):Prop where
 sc:s.screen_Screen[x]? = some ⟨some f,some k⟩
 bt:Bts m.h
 fd:∃g W H ks op,Fd C s f k g W H m.P m.G m.h q ks op
def lay (P:aa) (G:List Int):Option aa:=fo rS P (cls pj pr G)
def mdo (m:Mo) (o:aS):Option Mo:=
 if o.Kind=0 then some ⟨m.P,m.G++(bu m.h o.Bytes).1,(bu m.h o.Bytes).2⟩
 else if o.Kind=1 then (lay m.P (m.G++(if m.h= [] then [] else [65533]))).map fun q=>⟨q,[],[]⟩
 else if o.Kind=13 then (lay m.P m.G).bind fun q=>(dq q o.A o.B).map fun q'=>⟨q',[],m.h⟩
 else if w38 o=0 then (lay m.P m.G).bind fun q=>(fK q o).map fun q'=>⟨q',[],m.h⟩
 else some m
def w40 (o:aS):Int:=if o.Kind=0∨o.Kind=1∨o.Kind=13 then 0 else w38 o
def e40 (o:aS):Er:=if o.Kind=0∨o.Kind=1∨o.Kind=13 then Er.nil else e38 o
theorem Fd.pen_work {h:List Int} (F:Fd C s f k g W H P [] h q ks none) {s':Sto} {g' W':Nat} {q':aa} {ks':List Nat} (v:Pv s s' k g' W' q' ks') (hh:Hd q'.At W' ks'.length):Fd C s' f k g' W' ks'.length q' [] h q' ks' none:=by
 obtain ⟨d,hd,hdv⟩:=F.d;refine ⟨v.self,F.fr.trans F.v.oG F.v.oR v.f,F.fz.oth v.o,rfl,hh,rfl,F.gv,⟨d,?_,hdv⟩,fun _=>rfl,fun e=>by cases e⟩;rw [oU v.o];exact hd
theorem wx {m:Mo} (S:Sd C s x f k m q) (o:aS) (hb:Bts o.Bytes) (hl:o.Bytes.length≤9223372036854775807):∃s' m' q',eG s (some x) o=some (s',e40 o)∧mdo m o=some m'∧Sd C s' x f k m' q':=by
 obtain ⟨g,W,H,ks,op,F⟩:=S.fd;have hC:C.screen_Screen[x]? = some ⟨some f,some k⟩:=by rw [←F.fz.sc]; exact S.sc
 have hs:∀{s':Sto} {g W H:Nat} {P:aa} {G h:List Int} {q:aa} {ks:List Nat} {op:Option Nat},Fd C s' f k g W H P G h q ks op→s'.screen_Screen[x]? = some ⟨some f,some k⟩:=fun F'=>by rw [F'.fz.sc]; exact hC
 unfold eG mdo e40;simp only [bJ,aj,aT,bsm,aL,S.sc];by_cases k0:o.Kind=0
 ·obtain ⟨s',q',ks',op',b1,b2⟩:=BB F S.bt hl hb;rw [ae k0,ae k0,ae (.inl k0),b1];exact ⟨s',_,q',rfl,rfl,hs b2,tG S.bt hb,⟨_,_,_,_,_,b2⟩⟩
 rw [af k0,af k0];by_cases k1:o.Kind=1
 ·obtain ⟨s',q',ks',b1,b2,b3⟩:=BA F;rw [ae k1,ae k1,ae (.inr (.inl k1)),b1];unfold lay;rw [b3];exact ⟨s',_,q',rfl,rfl,hs b2,Bts.nil,⟨_,_,_,_,_,b2⟩⟩
 rw [af k1,af k1];by_cases k13:o.Kind=13
 ·obtain ⟨s2,b1,b2⟩:=tR F;obtain ⟨s',q',g',ks',c1,c2,c3,c4,c5⟩:=DN b2.v o.A o.B;have hkl:ks'.length=sd o.B:=by rw [←c3.len,c4]; simp [rs]
  rw [ae k13,ae k13,ae (.inr (.inr k13)),b1];have hl2:lay m.P m.G=some q:=F.l;simp only [bsm,hs b2,hl2];rw [c1,c2];have F2:=b2.pen_work c3 (by rw [hkl]; exact c5);exact ⟨s',_,q',rfl,rfl,hs F2,S.bt,⟨_,_,_,_,_,F2⟩⟩
 rw [af k13,af k13,af (by omega),vt];simp only [bsm,Ex];by_cases hw:w38 o=0
 ·rw [af (by simp [hw]),ae hw];obtain ⟨s2,b1,b2⟩:=tR F;obtain ⟨s',q',ks',c1,c2,c3,c4,c5,_⟩:=Ev b2.v o hw;rw [b1];have hl2:lay m.P m.G=some q:=F.l;simp only [bsm,hs b2,hl2];rw [c1,c2];have he:e38 o=Er.nil:=by unfold e38; rw [hw]; rfl
  have F2:=b2.pen_work c3 (by rw [c4]; exact c5);exact ⟨s',_,q',by rw [he]; rfl,rfl,hs F2,S.bt,⟨_,_,_,_,_,F2⟩⟩
 ·rw [ae (by simpa using hw),af hw];exact ⟨s,m,q,rfl,rfl,S⟩
def vw (q:aa):gu:=⟨(q.L.getD 0 dl).Cells.length,(q.L.length:Int),q.L,q.At,q.Auto⟩
theorem uh {m:Mo} (S:Sd C s x f k m q):dH s (some x)=some (vw q):=by
 obtain ⟨g,W,H,ks,op,F⟩:=S.fd;unfold dH vw;simp only [bJ,aj,aT,bsm,S.sc,F.v.p];rw [jm F.v.g,eL F.v.g,zF F.v.g,F.v.l];simp only [bsm];have hl:=F.v.len;have h1:=F.v.g.h1;rw [gdl (show 0 < q.L.length by omega),(F.v.ok _ (aH (show 0 < q.L.length by omega))).2,hl]
theorem uT (s:Sto) (w h:Int):∃s',jB s w h=some (s',some s.screen_Screen.length)∧Sd s' s' s.screen_Screen.length s.feed_Feeder.length s.place_Pen.length ⟨⟨bls (sd w) (sd h),⟨0,0,false⟩,true⟩,[],[]⟩ ⟨bls (sd w) (sd h),⟨0,0,false⟩,true⟩:=by
 obtain ⟨s1,ks,h1,v1⟩:=Bl (s:=s) w h;have hks:=v1.g.h1;have hW1:=v1.g.w1;obtain ⟨s2,h2,d2,e2⟩:=C4 v1.self ⟨by simp only; omega,by simp only; omega,fun e=>by cases e⟩;unfold jB;rw [h1];simp only [bsm];rw [h2];simp only [bsm];have es:s1.screen_Screen=s.screen_Screen:=xh v1.o;have ef:s1.feed_Feeder=s.feed_Feeder:=oU v1.o;have es2:s2.screen_Screen=s1.screen_Screen:=by rw [e2]; rfl
 rw [es2,es,ef];rw [ef] at d2;refine ⟨_,rfl,⟨?_,Bts.nil,⟨s.grid_Grid.length,sd w,ks.length,ks,none,?_⟩⟩⟩
 ·have:(s2.add_screen_Screen ⟨some s.feed_Feeder.length,some s.place_Pen.length⟩).screen_Screen=s2.screen_Screen++ [⟨some s.feed_Feeder.length,some s.place_Pen.length⟩]:=rfl;rw [this,es2,es];simp
 ·obtain ⟨d,hd,hdv⟩:=d2.d;refine ⟨⟨d2.v.p,⟨d2.v.g.g,d2.v.g.r,d2.v.g.h1,d2.v.g.h2,d2.v.g.w1,d2.v.g.w2⟩,d2.v.nd,d2.v.l,rfl,d2.v.f.rgp ⟨rfl,rfl,rfl⟩ ⟨rfl,rfl,rfl⟩⟩,d2.v.f.rgp ⟨rfl,rfl,rfl⟩ ⟨rfl,rfl,rfl⟩,Fz.self _ _ _ (fun y hy=>?_) (cK hd),rfl,d2.hd,rfl,fun y hy=>by simp at hy,⟨d,hd,hdv⟩,fun _=>rfl,fun e=>by cases e⟩;have hy':s2.feed_Feeder[s.feed_Feeder.length]? = some y:=hy;rw [hd] at hy';cases hy';rfl
end Go.Proofs.YtclmdpamofdoiaaGreatDoor
namespace Go.Proofs.YtclmdpamofdoiaaGreatDoor
open Go Go.Lt
theorem CJ {γ:Type} {x:Option (γ×Bool)} (h:x.map (fun q=>q.2)=some true):∃s,x=some (s,true):=by
 cases x with
 | none=>cases h
 | some q=>
  obtain ⟨a,b⟩:=q;simp only [fp,aQ] at h;subst h;exact ⟨a,rfl⟩
theorem FE {f:Sto→Option (Sto×Bool)} {s:Sto} (h1:(f s).map (fun q=>q.2)=some true) (h2:((f s).bind fun q=>f q.1).map (fun q=>q.2)=some true):∃s1 s2,f s=some (s1,true)∧f s1=some (s2,true):=by
 obtain ⟨s1,e1⟩:=CJ h1;rw [e1] at h2;obtain ⟨s2,e2⟩:=CJ h2;exact ⟨s1,s2,e1,e2⟩
theorem wf8 {n:Int} (h:(Lit.int .u8 n).wf=true):0≤n∧n≤255:=by
 simp only [Lit.wf,IntKind.min,IntKind.max,IntKind.signed,IntKind.bits,aq,am,aj,aT] at h;omega
end Go.Proofs.YtclmdpamofdoiaaGreatDoor
namespace Go.Proofs.YtclmdpamofdoiaaGreatDoor
open Go Go.Lt
variable {s C:Sto} {x f k g W H:Nat} {q P:aa} {ks:List Nat} {op:Option Nat}
def Obs (l:List aS):Prop:=∀o∈l,Bts o.Bytes∧o.Bytes.length≤9223372036854775807
theorem rC {α:Type} (f:α→Nat) {l:List α} {i:Nat} (h:i < l.length):((l.take (i+1)).map f).sum=((l.take i).map f).sum+f l[i]:=by
 rw [ax h,bO,Io];simp
theorem xU {α:Type} (f:α→Nat) (l:List α) (i:Nat):((l.take i).map f).sum≤(l.map f).sum:=by
 conv=>rhs; rw [←gM i l]
 rw [bO,Io];omega
end Go.Proofs.YtclmdpamofdoiaaGreatDoor
namespace Go.Proofs.YtclmdpamofdoiaaGreatDoor
open Go Go.Lt
variable {s C:Sto} {x f k:Nat} {q q':aa} {F:ao} {m m':Mo}
def qL (l:List aS):Nat:=(l.map fun o=>o.Bytes.length).sum
theorem Bz (l:List aS) (hl:l.length≤9223372036854775807) (hb:∀o∈l,o.Bytes.length≤4611686018427387904):∃t,fD l=some t∧(t=false→l.length≤50∧qL l≤600):=by
 unfold fD;refine qU (σ:=Int×Int) (τ:=Bool ⊕ Unit) (n:=min l.length 60) (fun i (s:Int×Int)=>s=((qL (l.take i):Int),(i:Int))∧qL (l.take i)≤600) (fun u=>match u with | .inl b=>b=true | .inr _=>qL (l.take (min l.length 60))≤600) (fun i s hi e=>?_) (fun s e=>?_) ⟨rfl,by simp [qL]⟩ (by omega) (fun u hu=>?_)
 ·obtain ⟨rfl,hs⟩:=e;have hil:i < l.length:=by omega
  have hbi:=hb _ (aH hil);have e1:qL (l.take (i+1))=qL (l.take i)+l[i].Bytes.length:=rC (fun o:aS=>o.Bytes.length) hil;simp only [aY,bsm];rw [ae (by simp; omega),bp hil];simp only [bsm,aY,bz];rw [aF (n:=(qL (l.take i):Int)+(l[i].Bytes.length:Int)) (by omega),aF (n:=(i:Int)+1) (by omega)];split
  ·exact .inr ⟨_,rfl,rfl⟩
  ·rename_i hn
   simp only [aD,am,FF] at hn;exact .inl ⟨_,rfl,by rw [e1]; simp,by rw [e1]; omega⟩
 ·obtain ⟨rfl,hs⟩:=e;simp only [aY,bsm];rw [af (by simp; omega)];exact ⟨_,rfl,hs⟩
 ·cases u with
  | inl b=>simp only at hu; exact ⟨b,rfl,fun h=>by rw [hu] at h; cases h⟩
  | inr u=>
   refine ⟨_,rfl,fun h=>?_⟩;have h1:l.length≤50:=by simp at h; omega
   rw [aC (by omega)] at hu;exact ⟨h1,hu⟩
structure Tm (F:ao) (m:Mo):Prop where
 p:m.P=F.P
 g:m.G=F.Group
 h:m.h=(bu [] F.Raw).2
 n:F.Parts=((bu [] F.Raw).1.length:Int)
 b:Bts F.Raw
theorem Sd.gv (S:Sd C s x f k m q):∀y∈m.G,vld y=true:=by
 obtain ⟨g,W,H,ks,op,F⟩:=S.fd;exact F.gv
theorem Sd.lay1 (S:Sd C s x f k m q):lay m.P m.G=some q:=by
 obtain ⟨g,W,H,ks,op,F⟩:=S.fd;exact F.l
theorem Ba (hv:∀y∈F.Group,vld y=true) (hb:Bts F.Raw) (hl:F.Raw.length≤1000000) (hg:F.Group.length < 1000000) (b3:lay F.P (F.Group++(if (bu [] F.Raw).2= [] then [] else [65533]))=some q'):dI F=some ⟨q',[],[],0⟩:=by
 unfold lay at b3;unfold dI;rw [ye hb hl];simp only [bsm];have hgv:∀x∈F.Group++(if (bu [] F.Raw).2= [] then [] else [65533]),vld x=true:=fun x hx=>by
  rcases List.mem_append.1 hx with hx | hx
  ·exact hv x hx
  ·split at hx
   ·simp at hx
   ·rw [List.mem_singleton.1 hx]; rfl
 by_cases hh:(bu [] F.Raw).2= []
 ·rw [af (by rw [hh]; simp)];rw [ae hh,eB] at b3;simp only [bsm];have:=qS (F:=⟨⟨F.P.L,⟨F.P.At.Row,F.P.At.Col,F.P.At.Pending⟩,F.P.Auto⟩,F.Group,[],0⟩) hv (by simp only; omega) b3;rw [this];rfl
 ·have hpos:0 < (bu [] F.Raw).2.length:=by
   cases hc:(bu [] F.Raw).2 with
   | nil=>exact absurd hc hh
   | cons _ _=>simp
  rw [ae (by simpa using hpos),Co (by omega)];rw [af hh] at b3 hgv;simp only [bsm];have:=qS (F:=⟨⟨F.P.L,⟨F.P.At.Row,F.P.At.Col,F.P.At.Pending⟩,F.P.Auto⟩,F.Group++ [fR 65533],[],0⟩) hgv (by simp; omega) b3;rw [this];rfl
theorem Cy (T:Tm F m) (hv:∀y∈m.G,vld y=true) (hq:lay m.P m.G=some q) {o:aS} (hb:Bts o.Bytes) (hl:F.Raw.length+o.Bytes.length≤1000000) (hg:F.Group.length < 1000000) (hm:mdo m o=some m'):
  ∃F',fJ F o=some (F',w40 o)∧Tm F' m'∧F'.Raw.length≤F.Raw.length+o.Bytes.length∧F'.Group.length≤F.Group.length+2 * o.Bytes.length:=by
 obtain ⟨P,G,h⟩:=m;obtain ⟨p,g,hh,hn,hbt⟩:=T;simp only at p g hh hv hq hm;subst p g hh;unfold mdo at hm;unfold fJ w40;simp only [aL] at hm⊢;by_cases k0:o.Kind=0
 ·rw [ae k0] at hm;cases hm;rw [ae k0,ae (.inl k0),Bh hn hbt hb hl (by omega)];have hap:=og [] F.Raw o.Bytes;have hlen:=wA (bu [] F.Raw).2 o.Bytes;refine ⟨_,rfl,⟨rfl,rfl,?_,rfl,fun y hy=>?_⟩,by simp,by simp only [aA]; omega⟩
  ·simp only [hap]
  ·rcases List.mem_append.1 hy with hy | hy
   ·exact hbt y hy
   ·exact hb y hy
 rw [af k0] at hm⊢;by_cases k1:o.Kind=1
 ·rw [ae k1] at hm;rw [ae k1,ae (.inr (.inl k1))];simp only [kP] at hm;obtain ⟨q1,h1,rfl⟩:=hm;rw [Ba hv hbt (by omega) hg h1];exact ⟨_,rfl,⟨rfl,rfl,rfl,rfl,fun y hy=>by simp at hy⟩,by simp,by simp⟩
 rw [af k1] at hm⊢;by_cases k13:o.Kind=13
 ·rw [ae k13] at hm;rw [ae k13,ae (.inr (.inr k13)),qS hv (by omega) hq];rw [hq] at hm;simp only [bsm,kP] at hm⊢;obtain ⟨q1,h1,rfl⟩:=hm;rw [h1];exact ⟨_,rfl,⟨rfl,rfl,rfl,hn,hbt⟩,by simp,by simp⟩
 rw [af k13] at hm;rw [af k13,af (by omega),yg];simp only [bsm];by_cases hw:w38 o=0
 ·rw [ae hw] at hm⊢;rw [qS hv (by omega) hq];rw [hq] at hm;simp only [bsm,kP] at hm⊢;obtain ⟨q1,h1,rfl⟩:=hm;rw [h1];exact ⟨_,rfl,⟨rfl,rfl,rfl,hn,hbt⟩,by simp,by simp⟩
 ·rw [af hw] at hm⊢;cases hm;exact ⟨_,rfl,⟨rfl,rfl,rfl,hn,hbt⟩,by simp,by simp⟩
def mr (m:Mo) (l:List aS):Option Mo:=l.foldl (fun a o=>a.bind fun m=>mdo m o) (some m)
theorem uI (m:Mo) {l:List aS} {i:Nat} (h:i < l.length):mr m (l.take (i+1))=(mr m (l.take i)).bind fun m=>mdo m l[i]:=by
 rw [ax h];unfold mr;rw [lE];rfl
def Hit (m0:Mo) (l:List aS) (row:Int) (i:Nat):Prop:=∃m q,mr m0 (l.take i)=some m∧lay m.P m.G=some q∧q.At.Row=row
theorem xn {m0:Mo} {l:List aS} {row:Int} {i:Nat} (h:mr m0 (l.take i)=some m) (hq:lay m.P m.G=some q):Hit m0 l row i↔q.At.Row=row:=by
 constructor
 ·rintro ⟨m1,q1,a,b,c⟩;rw [h] at a;cases a;rw [hq] at b;cases b;exact c
 ·exact fun e=>⟨m,q,h,hq,e⟩
def Res (m0:Mo) (l:List aS) (row r:Int):Prop:=(∃i,i≤l.length∧Hit m0 l row i∧(∀j,j < i→¬Hit m0 l row j)∧r=(i:Int))∨((∀j,j≤l.length→¬Hit m0 l row j)∧r= -1)
theorem Res.one {m0:Mo} {l:List aS} {row r r':Int} (h:Res m0 l row r) (h':Res m0 l row r'):r=r':=by
 rcases h with ⟨i,a,b,c,rfl⟩ | ⟨a,rfl⟩
 ·rcases h' with ⟨j,a',b',c',rfl⟩ | ⟨a',rfl⟩
  ·rcases HX i j with e | e | e
   ·exact absurd b (c' i e)
   ·rw [e]
   ·exact absurd b' (c j e)
  ·exact absurd b (a' i a)
 ·rcases h' with ⟨j,a',b',c',rfl⟩ | ⟨a',rfl⟩
  ·exact absurd b' (a j a')
  ·rfl
theorem zw (w h:Int):gx w h=some ⟨⟨bls (sd w) (sd h),⟨0,0,false⟩,true⟩,[],[],0⟩:=by
 obtain ⟨w1,w2⟩:=sI w;obtain ⟨h1,h2⟩:=sI h;unfold gx;rw [eX,dx,eX,dx,show max (1:Int) (min w 1024)=((sd w:Nat):Int) by unfold sd; omega,show max (1:Int) (min h 1024)=((sd h:Nat):Int) by unfold sd; omega,Be w2 h2];rfl
abbrev mo0 (p:bb):Mo:=⟨⟨bls (sd p.W) (sd p.H),⟨0,0,false⟩,true⟩,[],[]⟩
theorem Fy (p:bb) (hb:Obs p.Ops):∀i,i≤p.Ops.length→∃(C s:Sto) (x f k:Nat) (m:Mo) (q:aa),Sd C s x f k m q∧mr (mo0 p) (p.Ops.take i)=some m
 | 0,_=>by
  obtain ⟨s',_,S⟩:=uT ⟨[],[],[],[],[],[]⟩ p.W p.H;exact ⟨_,_,_,_,_,_,_,S,rfl⟩
 | i+1,hi=>by
  obtain ⟨C,s,x,f,k,m,q,S,h⟩:=Fy p hb i (by omega);obtain ⟨hb1,hb2⟩:=hb _ (aH (show i < p.Ops.length by omega));obtain ⟨s',m',q',a1,a2,S'⟩:=wx S _ hb1 hb2;exact ⟨C,s',x,f,k,m',q',S',by rw [uI _ (show i < p.Ops.length by omega),h]; exact a2⟩
theorem yH (s:Sto) (p:bb) (row:Int) (hb:Obs p.Ops) (hl:p.Ops.length≤1000000):∃st r,iU s p row=some (st,r)∧Res (mo0 p) p.Ops row r:=by
 obtain ⟨s3,h3,S3⟩:=uT s p.W p.H;unfold iU lI;rw [h3,bsm,uh S3,bsm];generalize s.screen_Screen.length=x at *;generalize s.feed_Feeder.length=f at *;generalize s.place_Pen.length=k at *;have i0:Hit (mo0 p) p.Ops row 0↔(bls (sd p.W) (sd p.H),(⟨0,0,false⟩:ai),true).2.1.Row=row:=xn (m:=mo0 p) rfl S3.lay1;by_cases h0:(0:Int)=row
 ·have:sv row none 0 (vw ⟨bls (sd p.W) (sd p.H),⟨0,0,false⟩,true⟩)=some (some 0,false):=by
   show (if ((0:Int)==row)=true then _ else _)=_;rw [ae (by rw [aL]; exact h0)]
  rw [this,bsm,ae (by simp),bsm];exact ⟨s3,_,rfl,.inl ⟨0,cw _,i0.2 h0,fun j hj=>by omega,rfl⟩⟩
 ·have:sv row none 0 (vw ⟨bls (sd p.W) (sd p.H),⟨0,0,false⟩,true⟩)=some (none,true):=by
   show (if ((0:Int)==row)=true then _ else _)=_;rw [af (by rw [aL]; exact h0)]
  rw [this,bsm,af (by simp)];have key:∀{X:Option (Sto×Int)},(∃u,X=some u∧Res (mo0 p) p.Ops row u.2)→∃st r,X=some (st,r)∧Res (mo0 p) p.Ops row r:=fun ⟨u,e,h⟩=>⟨u.1,u.2,e,h⟩;refine key ?_;rw [zh];refine qU (n:=p.Ops.length) (fun i (b:Int×Sto×Option Int)=>∃st m q,b=((i:Int),st,none)∧Sd s3 st x f k m q∧mr (mo0 p) (p.Ops.take i)=some m∧∀j,j≤i→¬Hit (mo0 p) p.Ops row j) (fun u=>∃v:Sto×Option Int,(u= .inl v∨u= .inr v)∧Res (mo0 p) p.Ops row (v.2.getD (-1))) (fun i a hi hI=>?_) (fun a hI=>?_) ⟨s3,mo0 p,_,rfl,S3,rfl,fun j hj=>by
   obtain rfl:j=0:=by omega
   exact fun h=>h0 (i0.1 h)⟩ (by omega) (fun u hu=>?_)
  ·obtain ⟨st,m,q,rfl,S,hm,hno⟩:=hI;simp only;rw [ae (dlt hi),bp hi,bsm];obtain ⟨hb1,hb2⟩:=hb _ (aH hi);obtain ⟨s',m',q',a1,a2,S'⟩:=wx S p.Ops[i] hb1 hb2;rw [a1,bsm,uh S',bsm,eJ hi (by omega)];have hm':mr (mo0 p) (p.Ops.take (i+1))=some m':=by rw [uI _ hi,hm]; exact a2
   have hi':Hit (mo0 p) p.Ops row (i+1)↔q'.At.Row=row:=xn hm' S'.lay1;by_cases hr:q'.At.Row=row
   ·right
    have:sv row none ((i+1:Nat):Int) (vw q')=some (some ((i+1:Nat):Int),false):=by
     show (if (q'.At.Row==row)=true then _ else _)=_;rw [ae (by rw [aL]; exact hr)]
    rw [this,bsm,ae (by simp)];exact ⟨_,rfl,(s',some ((i+1:Nat):Int)),.inl rfl,.inl ⟨i+1,hi,hi'.2 hr,fun j hj=>hno j (by omega),rfl⟩⟩
   ·left
    have:sv row none ((i+1:Nat):Int) (vw q')=some (none,true):=by
     show (if (q'.At.Row==row)=true then _ else _)=_;rw [af (by rw [aL]; exact hr)]
    rw [this,bsm,af (by simp)];refine ⟨_,rfl,s',m',q',rfl,S',hm',fun j hj=>?_⟩;rcases aN j (i+1) with h | h
    ·exact hno j (by omega)
    ·obtain rfl:j=i+1:=by omega
     exact fun h=>hr (hi'.1 h)
  ·obtain ⟨st,m,q,rfl,S,hm,hno⟩:=hI;exact ⟨_,by simp only; rw [af (by simp)],(st,none),.inr rfl,.inr ⟨hno,rfl⟩⟩
  ·obtain ⟨v,hv,hr⟩:=hu;rcases hv with rfl | rfl <;> exact ⟨(v.1,v.2.getD (-1)),rfl,hr⟩
end Go.Proofs.YtclmdpamofdoiaaGreatDoor
namespace Go.Proofs.YtclmdpamofdoiaaGreatDoor
open Go Go.Lt
theorem Bv {σ τ γ:Type} {step:σ→Option (σ ⊕ τ)} (Inv:σ→Prop) (μ:σ→Nat) (post:τ→Prop) {fuel:Nat} {s:σ} {k:τ→Option (γ×Bool)}
    (h:∀s,Inv s→(∃s',step s=some (.inl s')∧Inv s'∧μ s' < μ s)∨∃t,step s=some (.inr t)∧post t) (h0:Inv s) (hf:μ s < fuel) (hk:∀t,post t→∃r,k t=some (r,true)):∃r,(cM fuel step s).bind k=some (r,true):=by
  obtain ⟨t,h1,h2⟩:=kS Inv μ post h fuel s h0 hf;rw [h1];exact hk t h2
set_option maxRecDepth 100000 in
theorem AQ:(dD ⟨[],[],[],[],[],[]⟩).map (fun q=>q.2)=some true:=by kernel_rfl
set_option maxRecDepth 100000 in
theorem AP:((dD ⟨[],[],[],[],[],[]⟩).bind fun q=>dD q.1).map (fun q=>q.2)=some true:=by kernel_rfl
structure Cur (p:bb) (row:Int) (n:Nat) (F:ao) (m:Mo):Prop where
  t:Tm F m
  m:mr (mo0 p) (p.Ops.take (n - 1))=some m
  r:F.Raw.length≤qL (p.Ops.take (n - 1))
  g:F.Group.length≤2 * qL (p.Ops.take (n - 1))
  no:∀j,j < n→¬Hit (mo0 p) p.Ops row j
theorem AE {p:bb} {row:Int} {F:ao} {m:Mo} {i:Nat} (hb:Obs p.Ops) (hi:i≤p.Ops.length) (T:Tm F m) (hm:mr (mo0 p) (p.Ops.take i)=some m) (hg:F.Group.length≤1000000):∃q,da F=some q∧(Hit (mo0 p) p.Ops row i↔q.At.Row=row)∧(∀y∈m.G,vld y=true)∧lay m.P m.G=some q:=by
  obtain ⟨C,s,x,f,k,m1,q,S,h1⟩:=Fy p hb i hi;rw [hm] at h1;cases h1;have hv:=S.gv;have hq:=S.lay1;have hv':=hv;have hq':=hq;rw [T.g] at hv';rw [T.p,T.g] at hq';exact ⟨q,Am hv' hg hq',xn hm hq,hv,hq⟩
theorem vd (p:bb) (row:Int) (hl:p.Ops.length≤9223372036854775807) (hb:Obs p.Ops) (hs:∀o∈p.Ops,o.Bytes.length≤4611686018427387904):∃st,dY ⟨[],[],[],[],[],[]⟩ p row=some (st,true):=by
  unfold dY;obtain ⟨s1,s2,h1,h2⟩:=FE AQ AP;obtain ⟨t,ht,ht2⟩:=Bz p.Ops hl hs;have hgr:∃g,fC p=some g∧(g=false→t=false):=by
    unfold fC;rw [ht,bsm]
    cases t with
    | true=>exact ⟨true,rfl,fun h=>by cases h⟩
    | false=>
      rw [gn,aY,bsm,bsm];exact ⟨_,rfl,fun _=>rfl⟩
  obtain ⟨g,hg,hgt⟩:=hgr;rw [h1];simp only [bsm,dA,gn,hg]
  cases g with
  | true=>
    rw [ae rfl,h2];exact ⟨_,rfl⟩
  | false=>
  rw [af (by simp)];obtain ⟨hL,hS⟩:=ht2 (hgt rfl);obtain ⟨st,r,e1,hr⟩:=yH s1 p row hb (by omega);rw [e1,bsm,zw,bsm];have hsum:∀i,qL (p.Ops.take i)≤600:=fun i=>dj (xU (fun o:aS=>o.Bytes.length) p.Ops i) hS;refine Bv (fun a=>∃(n:Nat) (F:ao) (w:Int),a=(w,(n:Int),F.P.L,F.P.At.Row,F.P.At.Col,F.P.At.Pending,F.P.Auto,F.Group,F.Raw,F.Parts)∧n≤p.Ops.length+1∧((0≤w∧Res (mo0 p) p.Ops row w)∨(w= -1∧∃m,Cur p row n F m)))
    (fun a=>p.Ops.length+1 - a.2.1.toNat) (fun t=>Res (mo0 p) p.Ops row t.1) (fun a hI=>?_) ⟨0,⟨⟨bls (sd p.W) (sd p.H),⟨0,0,false⟩,true⟩,[],[],0⟩,-1,rfl,cw _,.inr ⟨rfl,mo0 p,⟨rfl,rfl,rfl,rfl,fun y hy=>by simp at hy⟩,rfl,by simp,by simp,fun j hj=>by omega⟩⟩ (by simp) (fun t ht=>?_)
  · obtain ⟨n,F,w,rfl,hn,hw⟩:=hI
    simp only;rw [aY,bsm];rcases hw with ⟨hw0,hR⟩ | ⟨rfl,m,K⟩
    · right
      rw [af (by rw [aq,am,am]; omega)];exact ⟨_,rfl,hR⟩
    · by_cases hN:n≤p.Ops.length
      · left
        rw [ae (by rw [aq,am,am]; omega)];have hw1:w64 ((n:Int)+1)=((n+1:Nat):Int):=by rw [aF (by omega)]; omega
        obtain ⟨F',m',hstep,T',hm',hr',hg'⟩:∃F' m',(if (decide ((n:Int) > 0))=true then
 (idx p.Ops (w64 ((n:Int) - 1))).bind fun m=>
 (fJ (⟨(⟨F.P.L,(⟨F.P.At.Row,F.P.At.Col,F.P.At.Pending⟩:ai),F.P.Auto⟩:aa),F.Group,F.Raw,F.Parts⟩:ao) m).bind fun e=>
 some (e.1.P.L,e.1.P.At.Row,e.1.P.At.Col,e.1.P.At.Pending,e.1.P.Auto,e.1.Group,e.1.Raw,e.1.Parts)
 else
 some (F.P.L,F.P.At.Row,F.P.At.Col,F.P.At.Pending,F.P.Auto,F.Group,F.Raw,F.Parts))=some (F'.P.L,F'.P.At.Row,F'.P.At.Col,F'.P.At.Pending,F'.P.Auto,F'.Group,F'.Raw,F'.Parts)∧Tm F' m'∧mr (mo0 p) (p.Ops.take n)=some m'∧F'.Raw.length≤qL (p.Ops.take n)∧F'.Group.length≤2 * qL (p.Ops.take n):=by
          obtain ⟨T,hm,hr1,hg1,hno⟩:=K
          cases n with
          | zero=>
            rw [af (by simp)];exact ⟨F,m,rfl,T,hm,hr1,hg1⟩
          | succ i=>
            have hi:i < p.Ops.length:=by omega
            rw [ae (by rw [am]; omega),show w64 (((i+1:Nat):Int) - 1)=(i:Int) by rw [aF (by omega)]; omega,bp hi,bsm];have e2:qL (p.Ops.take (i+1))=qL (p.Ops.take i)+p.Ops[i].Bytes.length:=rC (fun o:aS=>o.Bytes.length) hi;have e3:=hsum (i+1);have hm0:mr (mo0 p) (p.Ops.take i)=some m:=hm;have hr0:F.Raw.length≤qL (p.Ops.take i):=hr1;have hg0:F.Group.length≤2 * qL (p.Ops.take i):=hg1;obtain ⟨q,_,_,hv,hq⟩:=AE (row:=row) hb (show i≤p.Ops.length by omega) T hm0 (by omega);obtain ⟨C,s',x,f,k,m2,q2,S2,h2m⟩:=Fy p hb (i+1) hi;rw [uI _ hi,hm0] at h2m;have h2m':mdo m p.Ops[i]=some m2:=h2m;obtain ⟨F',b1,T',b3,b4⟩:=Cy T hv hq (hb _ (aH hi)).1 (by omega) (by omega) h2m';have hF:(⟨(⟨F.P.L,(⟨F.P.At.Row,F.P.At.Col,F.P.At.Pending⟩:ai),F.P.Auto⟩:aa),F.Group,F.Raw,F.Parts⟩:ao)=F:=rfl;rw [hF,b1,bsm];exact ⟨F',m2,rfl,T',by rw [uI _ hi,hm0]; exact h2m',by omega,by omega⟩
        rw [hstep,bsm];have e3:=hsum n;obtain ⟨q,hq,hhit,_,_⟩:=AE (row:=row) hb hN T' hm' (by omega);have hF:(⟨(⟨F'.P.L,(⟨F'.P.At.Row,F'.P.At.Col,F'.P.At.Pending⟩:ai),F'.P.Auto⟩:aa),F'.Group,F'.Raw,F'.Parts⟩:ao)=F':=rfl;simp only;rw [hF,hq,bsm];by_cases hh:q.At.Row=row
        · rw [ae (by rw [aL]; exact hh),bsm]
          refine ⟨_,rfl,⟨n+1,F',(n:Int),by rw [hw1],by omega,.inl ⟨by omega,.inl ⟨n,hN,hhit.2 hh,K.no,rfl⟩⟩⟩,?_⟩;simp only;rw [hw1];omega
        · rw [af (by rw [aL]; exact hh),bsm]
          refine ⟨_,rfl,⟨n+1,F',-1,by rw [hw1],by omega,.inr ⟨rfl,m',T',hm',hr',hg',fun j hj=>?_⟩⟩,?_⟩
          · rcases aN j n with h | h
            · exact K.no j h
            · obtain rfl:j=n:=by omega
              exact fun h=>hh (hhit.1 h)
          · simp only
            rw [hw1];omega
      · right
        rw [af (by rw [aq,am,am]; omega)];exact ⟨_,rfl,.inr ⟨fun j hj=>K.no j (by omega),rfl⟩⟩
  · have e4:=hr.one ht
    refine ⟨st,?_⟩;rw [e4];simp [oY,aY]
end Go.Proofs.YtclmdpamofdoiaaGreatDoor
