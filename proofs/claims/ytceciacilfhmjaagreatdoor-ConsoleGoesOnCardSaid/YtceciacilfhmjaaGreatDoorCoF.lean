/- Parts of the proofs of ConsoleGoesOn: the walk through the code, and plain Lean. No condition. -/
import Derived.Test.YtceciacilfhmjaaGreatDoorCoD
import Derived.Test.YtceciacilfhmjaaGreatDoorCoE
import Derived.KernelRfl
set_option linter.unusedVariables false
set_option linter.unusedSimpArgs false
namespace Go.Proofs.YtceciacilfhmjaaGreatDoor
open Go Go.Lt
variable {C s:Sto} {x f k kc:Nat} {m:Mo} {q:ae}
def yd (m:Mo) (q:ae) (l:ByteArray):Option (Mo×ByteArray):=
 (orE (eqS l ⟨#[]⟩) ((nb l 0).bind fun x=>some (x==35))).bind fun d=>
 if d=true then some (m,⟨#[]⟩) else
 if eqS l uG=true then (jY (vw q)).bind fun r=>some (m,r) else
 if eqS l uF=true then (txR (vw q)).bind fun r=>some (m,r) else
 if eqS l nU=true then (cuR q.At).bind fun r=>some (m,r) else
 if eqS l uH=true then (heR (m.h.length:Int)).bind fun r=>some (m,r) else
 if eqS l uD=true then (usR (vw q)).bind fun r=>some (m,r) else
 (fL l).bind fun b=>
 if (!b.2.isNil)=true then (eD b.2).bind fun r=>some (m,r) else
 (mdo m b.1).bind fun m'=>
 if (!(e40 b.1).isNil)=true then (bu (w40 b.1)).bind fun g=>(cp ([(⟨#[114,101,102,117,115,101,100]⟩:ByteArray),g]:List ByteArray)).bind fun r=>some (m',r)
 else some (m',(⟨#[111,107,10]⟩:ByteArray))
def ol (l:List UInt8):Prop:=∀i,(l.drop i).take 3≠ [115,105,122]
theorem DD (l:ByteArray):∃p,fX l qk=some p∧(p=true→(blS l).take 3= [115,105,122]):=by
  unfold fX dk;by_cases h:bL l≥bL qk
  · have h5:5≤(blS l).length:=by rw [sK] at h; rw [show bL qk=5 from rfl] at h; omega
    rw [show decide (bL l≥bL qk)=true by simpa using h,eO];have:=sI (a:=blS l) (i:=0) (j:=5) (by omega) h5;rw [gg,show ((0:Nat):Int)=0 from rfl,show ((5:Nat):Int)=bL qk from rfl] at this;rw [this];simp only [bsm,iT,qb];refine ⟨_,rfl,fun e=>?_⟩;rw [nt] at e;have e2:=dG blS e;rw [dB] at e2;have e3:((blS l).take 5).take 3= [115,105,122]:=by rw [e2]; rfl
    rw [iS] at e3;exact e3
  · rw [show decide (bL l≥bL qk)=false by simpa using h,fq]
    simp only [bsm];exact ⟨_,rfl,fun e=>by cases e⟩
theorem IX (o:ba):0≤w40 o∧w40 o≤9:=by
  unfold w40;split
  · decide
  · rcases Bp o with h | h | h <;> rw [h] <;> decide
theorem BG {o:ba} (h:o.Kind=13):((rH o).drop 2).take 3= [115,105,122]:=by
  unfold rH;rw [h,ab (by decide),ab (by decide)];rfl
theorem HM (S:SW C s x f k m q) (hc:C.console_console[kc]? = some ⟨some x⟩) (l:ByteArray) (hl:l.size≤1000) (hz:ol (blS l)):
    ∃s' m' q' r,eH s (some kc) l=some (s',r)∧yd m q l=some (m',r)∧SW C s' x f k m' q'∧r.size≤10000000:=by
  have hc':s.console_console[kc]? = some ⟨some x⟩:=by rw [Jd S.con]; exact hc
  unfold eH yd;by_cases h0:eqS l ⟨#[]⟩=true
  · rw [h0,ij]
    simp only [bsm,bG];exact ⟨s,m,q,_,rfl,rfl,S,by decide⟩
  rw [show eqS l ⟨#[]⟩=false by simpa using h0,db];have hpos:0 < (blS l).length:=by
    rcases iR (blS l).length with h | h
    · exfalso
      refine h0 ((nt _ _).2 (vC ?_));rw [aW h];rfl
    · exact h
  have hb:=vo (a:=blS l) (i:=0) hpos;rw [gg,show ((0:Nat):Int)=0 from rfl] at hb;rw [hb];simp only [bsm];generalize ((((blS l)[0].toNat:Nat):Int)==35)=d35
  cases d35 with
  | true=>
    simp only [bG];exact ⟨s,m,q,_,rfl,rfl,S,by decide⟩
  | false=>
  simp only [am,aU];by_cases q1:eqS l uG=true
  · obtain ⟨r,h1,h2,h3⟩:=Hk S hc'
    rw [af q1,af q1,h1,h2];exact ⟨s,m,q,r,rfl,rfl,S,h3⟩
  rw [ab q1,ab q1];by_cases q2:eqS l uF=true
  · obtain ⟨r,h1,h2,h3⟩:=He S hc'
    rw [af q2,af q2,h1,h2];exact ⟨s,m,q,r,rfl,rfl,S,h3⟩
  rw [ab q2,ab q2];by_cases q3:eqS l nU=true
  · obtain ⟨r,h1,h2,h3⟩:=JR S hc'
    rw [af q3,af q3,h1,h2];exact ⟨s,m,q,r,rfl,rfl,S,h3⟩
  rw [ab q3,ab q3];by_cases q4:eqS l uH=true
  · obtain ⟨r,h1,h2,h3⟩:=HZ S hc'
    rw [af q4,af q4,h1,h2];exact ⟨s,m,q,r,rfl,rfl,S,h3⟩
  rw [ab q4,ab q4];by_cases q5:eqS l uD=true
  · obtain ⟨r,h1,h2,h3⟩:=G5 S hc'
    rw [af q5,af q5,h1,h2];exact ⟨s,m,q,r,rfl,rfl,S,h3⟩
  rw [ab q5,ab q5];have e1:eqS l CD=false:=wE fun e=>by
    subst e;exact hz 0 rfl
  obtain ⟨p,hp,hp2⟩:=DD l;have e2:p=false:=by
    cases p with
    | false=>rfl
    | true=>exact absurd (hp2 rfl) (hz 0)
  subst e2;rw [e1,db,hp];simp only [bsm,am,aU];unfold ir;rcases BL l (by omega) with ⟨o,R,hby,hbl,hlin,hpz⟩ | ⟨a,a0,a1,hpz⟩
  · have h13:o.Kind≠13:=fun h=>hz 2 (by rw [hlin]; exact BG h)
    rw [hpz];simp only [bsm,show (!Er.nil.isNil)=false from rfl,am,aU,hc'];obtain ⟨s',m',q',d1,d2,d3⟩:=S.dob o hby (by omega) h13;rw [d1,d2];simp only [bsm]
    cases hn:(!(e40 o).isNil) with
    | false=>
      simp only [am,aU];exact ⟨s',m',q',_,rfl,rfl,d3,by decide⟩
    | true=>
      have hf:fm (w40 o):=by have:=IX o; unfold fm; omega
      simp only [bG];rw [Gg];simp only [bsm];rw [nX hf];simp only [bsm];obtain ⟨r,u1,u2⟩:=wK (n:=10) (by omega) [[114,101,102,117,115,101,100],Lib.itoa (w40 o)] (by simp) (fun w hw=>by
        simp only [cq,cC,ju] at hw;rcases hw with rfl | rfl
        · simp
        · exact lE hf)
      rw [show ([(⟨#[114,101,102,117,115,101,100]⟩:ByteArray),mkS (Lib.itoa (w40 o))]:List ByteArray)= [[114,101,102,117,115,101,100],Lib.itoa (w40 o)].map mkS from rfl,u1];exact ⟨s',m',q',r,rfl,rfl,d3,by omega⟩
  · have hcnt:=mG 32 (blS l)
    have hc1:=xg (a:=(32:UInt8)) (l:=blS l);rw [jT] at hc1;rw [hpz];simp only [bsm,show (!(Er.fault a (Er.sent 6)).isNil)=true from rfl,bG];obtain ⟨r,u1,u2⟩:=I1 a0 (by omega) (Er.sent 6);rw [u1];exact ⟨s,m,q,r,rfl,rfl,S,by omega⟩
def rY:List (List UInt8)→Mo→List UInt8→Option (Mo×List UInt8)
  | [],m,bs=>some (m,bs)
  | l :: ls,m,bs=>(lay m.P m.G).bind fun q=>(yd m q (mkS l)).bind fun r=>rY ls r.1 (bs++r.2.data.toList)
theorem vN (l2:List (List UInt8)):∀(l1:List (List UInt8)) (m:Mo) (bs:List UInt8),rY (l1++l2) m bs=(rY l1 m bs).bind fun r=>rY l2 r.1 r.2
  | [],m,bs=>by simp only [bq,rY,bsm]
  | l :: ls,m,bs=>by
    simp only [bD,rY]
    cases lay m.P m.G with
    | none=>rfl
    | some q=>
      simp only [bsm]
      cases yd m q (mkS l) with
      | none=>rfl
      | some r=>simp only [bsm]; exact vN l2 ls _ _
theorem Aa:∀{ls:List (List UInt8)} {m m':Mo} {bs out:List UInt8},rY ls m bs=some (m',out)→∃t,out=bs++t
  | [],m,m',bs,out,h=>by
    simp only [rY,az,gE] at h;exact ⟨[],by rw [eP]; exact h.2.symm⟩
  | l :: ls,m,m',bs,out,h=>by
    simp only [rY] at h;obtain ⟨q,_,h⟩:=Go.Lt.bs h;obtain ⟨r,_,h⟩:=Go.Lt.bs h;obtain ⟨t,rfl⟩:=Aa h;exact ⟨r.2.data.toList++t,by rw [aD]⟩
def vM {σ:Type} (y:σ→ByteArray→Option (σ×Bool)):List (List UInt8)→σ→Option σ
  | [],s=>some s
  | l :: ls,s=>(y s (mkS l)).bind fun z=>vM y ls z.1
theorem CE (hc:C.console_console[kc]? = some ⟨some x⟩):∀(ls:List (List UInt8)) {s:Sto} {m:Mo} {q:ae} {bs:List UInt8},SW C s x f k m q→(∀l∈ls,l.length≤1000∧ol l)→bs.length+10000000 * ls.length≤140737488355328→
    ∃s' m' q' out,vM (tY kc) ls (s,bs)=some (s',out)∧rY ls m bs=some (m',out)∧SW C s' x f k m' q'
  | [],s,m,q,bs,S,_,_=>⟨s,m,q,bs,rfl,rfl,S⟩
  | l :: ls,s,m,q,bs,S,hl,hb=>by
    obtain ⟨l1,l2⟩:=hl l (by simp);obtain ⟨s1,m1,q1,r,h1,h2,S1,h3⟩:=HM S hc (mkS l) (by rw [eX]; exact l1) (by rw [dB]; exact l2);have hrl:r.data.toList.length=r.size:=rfl;rw [ak] at hb;obtain ⟨s2,m2,q2,out,g1,g2,S2⟩:=CE hc ls (bs:=bs++r.data.toList) S1 (fun y hy=>hl y (by simp [hy])) (by rw [ag,hrl]; omega);refine ⟨s2,m2,q2,out,?_,?_,S2⟩
    · simp only [vM,tY]
      rw [h1];simp only [bsm];rw [af (by omega)];simp only [bsm];exact g1
    · simp only [rY]
      rw [S.lay];simp only [bsm];rw [h2];simp only [bsm];exact g2
theorem CS {c:UInt8}:∀{l:List UInt8},c∉l→Lib.indexByte l c= -1
  | [],_=>rfl
  | b :: l,h=>by
    have h1:(b==c)=false:=by
      rw [bN];exact fun e=>h (by simp [e])
    unfold Lib.indexByte;rw [h1,CS (fun e=>h (by simp [e]))];rfl
theorem IQ {c:UInt8}:∀{w:List UInt8} (t:List UInt8),c∉w→Lib.indexByte (w++c :: t) c=(w.length:Int)
  | [],t,_=>by
    show Lib.indexByte (c :: t) c=0;unfold Lib.indexByte;rw [Cb,af rfl]
  | b :: w,t,h=>by
    have h1:(b==c)=false:=by
      rw [bN];exact fun e=>h (by simp [e])
    rw [bD];unfold Lib.indexByte;rw [h1,ab (by decide),IQ t (fun e=>h (by simp [e])),ab (by simp),ak];omega
theorem ze:∀l:List UInt8,(10:UInt8)∉l∨∃w t,l=w++10 :: t∧(10:UInt8)∉w
  | []=> .inl (by simp)
  | b :: l=>by
    by_cases hb:b=10
    · exact .inr ⟨[],l,by rw [hb]; rfl,by simp⟩
    · rcases ze l with h | ⟨w,t,rfl,hw⟩
      · exact .inl fun e=>(List.mem_cons.1 e).elim (fun e=>hb e.symm) h
      · exact .inr ⟨b :: w,t,rfl,fun e=>(List.mem_cons.1 e).elim (fun e=>hb e.symm) hw⟩
theorem Dj {σ:Type} {y:σ→ByteArray→Option (σ×Bool)} (hy:∀s l z,y s l=some z→z.2=true) {t:ByteArray} (ht:t.size≤1000000) {s s1:σ} (h:vM y (cF 10 (blS t)) s=some s1):nB y t s=some s1:=by
  unfold nB;have key:∀(n fuel:Nat) (l:List UInt8) (s:σ),l.length≤n→l.length≤1000000→l.length+1 < fuel→vM y (cF 10 l) s=some s1→
      (cV (σ:=ByteArray×σ) (τ:=σ ⊕ (ByteArray×σ)) fuel (fun a=>
        if decide (lnI a.1 < 0)=true then some (.inr (.inr a)) else
        (na a.1 0 (w64 (lnI a.1+0))).bind fun x=>(y a.2 x).bind fun z=>
        if (!z.2)=true then some (.inr (.inl z.1)) else (na a.1 (w64 (lnI a.1+1)) (bL a.1)).bind fun r=>some (.inl (r,z.1))) (mkS l,s)).bind (fun u=>match u with
        | .inl s'=>some s'
        | .inr v=>(y v.2 v.1).bind fun z=>some z.1)=some s1:=by
    intro n
    induction n with
    | zero=>
      intro fuel l s h0 hm hf hr;obtain ⟨fuel,rfl⟩:∃j,fuel=j+1:=⟨fuel - 1,by omega⟩;have hl:l= []:=aW (by omega);subst hl;have hi:lnI (mkS [])= -1:=rfl;unfold cV;simp only [hi];rw [af (by decide)];simp only [bsm];obtain ⟨z,hz,hr⟩:=bs hr;simp only [vM,az] at hr;rw [show (y s (mkS []))=some z from hz,bsm,hr]
    | succ n ih=>
      intro fuel l s h0 hm hf hr;obtain ⟨fuel,rfl⟩:∃j,fuel=j+1:=⟨fuel - 1,by omega⟩;unfold cV;rcases ze l with hno | ⟨w,r,rfl,hw⟩
      · rw [oH hno] at hr
        have hi:lnI (mkS l)= -1:=by unfold lnI; rw [dB]; exact CS hno
        simp only [hi];rw [af (by decide)];simp only [bsm];obtain ⟨z,hz,hr⟩:=bs hr;simp only [vM,az] at hr;rw [hz,bsm,hr]
      · rw [ll hw] at hr
        have hi:lnI (mkS (w++10 :: r))=(w.length:Int):=by unfold lnI; rw [dB]; exact IQ r hw
        obtain ⟨z,hz,hr⟩:=bs hr;simp only [ag,ak] at h0 hm hf;simp only [hi];rw [ab (by simp),show w64 ((w.length:Int)+0)=(w.length:Int) from by rw [Int.add_zero]; exact aL (by omega),show w64 ((w.length:Int)+1)=((w.length+1:Nat):Int) from by rw [aL (by omega)]; simp];have c1:=sI (a:=w++10 :: r) (i:=0) (j:=w.length) (by omega) (by simp);rw [show ((0:Nat):Int)=0 from rfl,iT,qb,nO] at c1;rw [c1,bsm,hz,bsm,hy _ _ _ hz,ab (by decide)];have c2:=sI (a:=w++10 :: r) (i:=w.length+1) (j:=(w++10 :: r).length) (by simp) (ao _);rw [sJ,c2,bsm];have hd:((w++10 :: r).drop (w.length+1)).take ((w++10 :: r).length - (w.length+1))=r:=by
          rw [←de,eJ];simp only [List.drop_succ_cons,iT];exact aJ (by simp only [ag,ak]; omega)
        rw [hd];exact ih fuel r z.1 (by omega) (by omega) (by omega) hr
  have:=key t.size (t.size+2) (blS t) s (by rw [jT]; exact ao _) (by rw [jT]; exact ht) (by rw [jT]; omega) h;rw [gg] at this;exact this
theorem Dr (kc:Nat):∀s l z,tY kc s l=some z→z.2=true:=by
  intro s l z h;unfold tY at h;obtain ⟨r,_,h⟩:=bs h;split at h
  · cases h; rfl
  · cases h
theorem vU:∀(n:Nat) (l:List UInt8),l.length≤n→∀w∈cF 10 l,∃a b,l=a++w++b:=by
 intro n
 induction n with
 | zero=>
  intro l h w hw;obtain rfl:=aW (show l.length=0 by omega);have:w= []:=by simpa [cF] using hw
  exact ⟨[],[],by rw [this]; rfl⟩
 | succ n ih=>
  intro l h w hw;rcases ze l with hno | ⟨w0,t,rfl,h0⟩
  ·rw [oH hno,eQ] at hw;exact ⟨[],[],by rw [hw]; simp⟩
  ·rw [ll h0,cq] at hw;rcases hw with rfl | hw
   ·exact ⟨[],10 :: t,by simp⟩
   ·simp only [ag,ak] at h;obtain ⟨a,b,e⟩:=ih t (by omega) w hw;exact ⟨w0++10 :: a,b,by rw [e]; simp⟩
theorem xP:∀(n:Nat) (l t:List UInt8),l.length≤n→cF 10 (l++10 :: t)=cF 10 l++cF 10 t:=by
 intro n
 induction n with
 | zero=>
  intro l t h;obtain rfl:=aW (show l.length=0 by omega);exact ll (w:=[]) (by simp) t
 | succ n ih=>
  intro l t h;rcases ze l with hno | ⟨w0,r,rfl,h0⟩
  ·rw [ll hno,oH hno];rfl
  ·simp only [ag,ak] at h;rw [aD,bD,ll h0,ll h0,ih r t (by omega)];rfl
theorem ol.sub {l w a b:List UInt8} (h:ol l) (e:l=a++w++b):ol w:=by
 intro i hi;have hlen:=dG List.length hi;simp only [av,aN,ak,aB] at hlen;refine h (a.length+i) ?_;rw [e,aD,←de,eJ,kH (by omega),eu (by rw [aN]; omega)];exact hi
abbrev P0:ae:=⟨bls (sd 80) (sd 24),⟨0,0,false⟩,true⟩
abbrev M0:Mo:=⟨P0,[],[]⟩
theorem I6 (s:Sto):∃s',jg s 80 24=some (s',some s.screen_Screen.length)∧∀y,SW (s'.add_console_console y) (s'.add_console_console y) s.screen_Screen.length s.feed_Feeder.length s.place_Pen.length M0 P0:=by
 obtain ⟨s',h,S⟩:=BB s 80 24;obtain ⟨sc,bt,g,W,H,ks,op,F⟩:=S;have hl:=F.v.len;have hH:=F.n;have h24:(P0).L.length=24:=by simp only [bls,dO]; decide
 have e1:H=24:=by
  have:(P0).L.length=ks.length:=by first | exact hl | exact hl.symm
  omega
 subst e1;have hh:=F.v.ok _ (aF (show 0 < (P0).L.length by omega));have e2:W=80:=by
  have h1:=hh.2;simp only [bls,fS,dO] at h1;rw [←h1]
  decide
 subst e2;refine ⟨s',h,fun y=>⟨sc,bt,g,ks,op,?_⟩⟩;obtain ⟨d,hd,hdv⟩:=F.d;refine ⟨⟨F.v.p,⟨F.v.g.g,F.v.g.r,F.v.g.h1,F.v.g.h2,F.v.g.w1,F.v.g.w2⟩,F.v.nd,F.v.l,rfl,F.v.f.rgp ⟨rfl,rfl,rfl⟩ ⟨rfl,rfl,rfl⟩⟩,F.v.f.rgp ⟨rfl,rfl,rfl⟩ ⟨rfl,rfl,rfl⟩,Fz.self _ _ _ (fun y hy=>?_) (cX hd),hH,F.hd,F.l,F.gv,⟨d,hd,hdv⟩,F.o1,fun e=>?_⟩
 ·have hy':s'.feed_Feeder[s.feed_Feeder.length]? = some y:=hy;rw [hd] at hy';cases hy';rfl
 ·exact absurd (show yS []=false from e) (by decide)
theorem yI (sg:Sto) (t:List UInt8) (ht:t.length≤1000) (hz:∀l∈cF 10 t,ol l):∃s' m' out,ey sg (mkS t)=some (s',mkS out)∧rY (cF 10 t) M0 []=some (m',out):=by
 obtain ⟨s1,h1,h2⟩:=I6 sg;have S:=h2 (⟨some sg.screen_Screen.length⟩:co);have hc:(s1.add_console_console ⟨some sg.screen_Screen.length⟩).console_console[s1.console_console.length]? = some ⟨some sg.screen_Screen.length⟩:=by
  simp [Sto.add_console_console]
 have hcnt:=mG 10 t;have hc1:=xg (a:=(10:UInt8)) (l:=t);obtain ⟨s',m',q',out,r1,r2,_⟩:=CE (kc:=s1.console_console.length) hc (cF 10 t) (bs:=[]) S (fun l hl=>⟨by
   obtain ⟨a,b,e⟩:=vU _ t (ao _) l hl;have:=dG List.length e;simp only [ag] at this;omega,hz l hl⟩) (by rw [hcnt]; simp only [aB]; omega)
 refine ⟨s',m',out,?_,r2⟩;unfold ey;rw [h1];simp only [bsm];rw [Dj (s1:=(s',out)) (Dr _) (by rw [eX]; omega) (by rw [dB]; exact r1)];rfl
theorem DM (m:Mo) (q:ae):yd m q (mkS [])=some (m,⟨#[]⟩):=by
 unfold yd;rw [show eqS (mkS []) ⟨#[]⟩=true from rfl,ij];rfl
theorem EZ {A:List (List UInt8)} {m m':Mo} {bs out:List UInt8} (h:rY (A++ [[]]) m bs=some (m',out)):rY A m bs=some (m',out):=by
 rw [vN] at h;obtain ⟨⟨m1,o1⟩,h1,h2⟩:=Go.Lt.bs h;simp only [rY] at h2;obtain ⟨q,_,h2⟩:=Go.Lt.bs h2;rw [DM] at h2;simp only [bsm,az,gE] at h2;obtain ⟨rfl,e⟩:=h2;rw [h1,←e];simp
theorem EM (l:ByteArray) (hl:l.size≤400) (i:Nat) (hi:i≤400):(bX (decide (w64 ((i:Int)+3)≤bL l)) ((na l (i:Int) (w64 ((i:Int)+3))).bind fun q=>some (eqS q (⟨#[115,105,122]⟩:ByteArray))))=some (decide (((blS l).drop i).take 3= [115,105,122])):=by
 have hw:w64 ((i:Int)+3)=((i+3:Nat):Int):=by rw [aL (by omega)]; simp
 rw [hw];have hs:bL l=((blS l).length:Int):=by rw [sK]
 by_cases h:i+3≤(blS l).length
 ·rw [show decide (((i+3:Nat):Int)≤bL l)=true by rw [hs]; exact bA (by omega),eO];have:=sI (a:=blS l) (i:=i) (j:=i+3) (by omega) h;rw [gg] at this;rw [this,show i+3 - i=3 by omega];simp only [bsm];by_cases e:((blS l).drop i).take 3= [115,105,122]
  ·rw [e,bA rfl];rfl
  ·rw [jq e];refine dG some (wE fun e2=>e ?_);have:=dG blS e2;rw [dB] at this;exact this
 ·rw [show decide (((i+3:Nat):Int)≤bL l)=false by rw [hs]; exact jq (by omega),fq,jq];intro e;have:=dG List.length e;simp only [av,aN,ak,aB] at this;omega
theorem CN {l:List UInt8} {i:Nat} (h1:∀j < i,(l.drop j).take 3≠ [115,105,122]) (h2:¬i+3≤l.length):ol l:=by
 intro j e;by_cases h:j < i
 ·exact h1 j h e
 ·have:=dG List.length e;simp only [av,aN,ak,aB] at this;omega
theorem sm (x0 x1:ByteArray):∃st,dj ⟨[],[],[],[],[],[],[]⟩ x0 x1=some (st,true):=by
 obtain ⟨s1,s2,w1,w2⟩:=Jm (f:=fe) (s:=⟨[],[],[],[],[],[],[]⟩) (by kernel_rfl) (by kernel_rfl);unfold dj;rw [w1];simp only [bsm,eK];rw [db];simp only [bsm];by_cases h0:x0.size≤400
 case neg=>
  rw [show decide (bL x0 > 400)=true from bA (by unfold bL; omega),ij];simp only [bsm,bG];rw [w2];exact ⟨s2,rfl⟩
 rw [show decide (bL x0 > 400)=false from jq (by unfold bL; omega),db];simp only [bsm];by_cases h1:x1.size≤400
 case neg=>
  rw [show decide (bL x1 > 400)=true from bA (by unfold bL; omega),af rfl,w2];exact ⟨s2,rfl⟩
 rw [show decide (bL x1 > 400)=false from jq (by unfold bL; omega),ab (by decide)];have key:=lF (τ:=(Sto×Bool) ⊕ Unit) (step:=fun (a:Int)=>
  (orE (decide ((w64 (a+3))≤(bL x0))) (some (decide ((w64 (a+3))≤(bL x1))))).bind fun l=>
  if l=true then
  (bX (decide ((w64 (a+3))≤(bL x0))) ((na x0 a (w64 (a+3))).bind fun q=>
  some (eqS q (⟨#[115,105,122]⟩:ByteArray)))).bind fun m=>
  (orE m ((bX (decide ((w64 (a+3))≤(bL x1))) ((na x1 a (w64 (a+3))).bind fun r=>
  some (eqS r (⟨#[115,105,122]⟩:ByteArray)))).bind fun o=>
  some o)).bind fun n=>
  if n=true then
  some (.inr (.inl (s1,true)))
  else
  some (.inl ((w64 (a+1))))
  else
  some (.inr (.inr ())))
  (fun a=>∃i:Nat,a=(i:Int)∧i≤400∧∀j < i,((blS x0).drop j).take 3≠ [115,105,122]∧((blS x1).drop j).take 3≠ [115,105,122])
  (fun a=>(400 - a).toNat)
  (fun t=>match t with | .inl r=>r=(s1,true) | .inr _=>ol (blS x0)∧ol (blS x1)) (by
   rintro _ ⟨i,rfl,hi,hj⟩;have hw:w64 ((i:Int)+3)=((i+3:Nat):Int):=by rw [aL (by omega)]; simp
   have e0:decide ((w64 ((i:Int)+3))≤(bL x0))=decide (i+3≤(blS x0).length):=by rw [hw,sK]; exact decide_eq_decide.2 (by omega)
   have e1:decide ((w64 ((i:Int)+3))≤(bL x1))=decide (i+3≤(blS x1).length):=by rw [hw,sK]; exact decide_eq_decide.2 (by omega)
   have c0:=EM x0 h0 i hi;have c1:=EM x1 h1 i hi;rw [c0,c1];have hor:orE (decide ((w64 ((i:Int)+3))≤(bL x0))) (some (decide ((w64 ((i:Int)+3))≤(bL x1))))=some (decide (i+3≤(blS x0).length∨i+3≤(blS x1).length)):=by
    rw [e0,e1];by_cases h:i+3≤(blS x0).length
    ·rw [bA h,ij,bA (.inl h)]
    ·rw [jq h,db];simp [h]
   rw [hor];simp only [bsm];by_cases hgo:i+3≤(blS x0).length∨i+3≤(blS x1).length
   ·rw [af (bA hgo)];have hi2:i < 400:=by
     have:=jT x0;have:=jT x1;omega
    by_cases q0:((blS x0).drop i).take 3= [115,105,122]
    ·rw [bA q0,ij];exact .inr ⟨_,rfl,rfl⟩
    rw [jq q0,db];simp only [bsm];by_cases q1:((blS x1).drop i).take 3= [115,105,122]
    ·rw [bA q1,af rfl];exact .inr ⟨_,rfl,rfl⟩
    rw [jq q1,ab (by decide)];refine .inl ⟨_,rfl,⟨i+1,by rw [aL (by omega)]; simp,by omega,fun j h=>?_⟩,by rw [aL (by omega)]; omega⟩;rcases Nat.lt_succ_iff_lt_or_eq.1 h with h | rfl
    ·exact hj j h
    ·exact ⟨q0,q1⟩
   ·rw [ab (by simpa using hgo)];exact .inr ⟨_,rfl,CN (fun j h=>(hj j h).1) (fun h=>hgo (.inl h)),CN (fun j h=>(hj j h).2) (fun h=>hgo (.inr h))⟩) 500 0 ⟨0,rfl,by omega,fun j h=>absurd h (by omega)⟩ (by decide)
 obtain ⟨u,hu,hp⟩:=key;rw [hu];simp only [bsm]
 cases u with
 | inl r=>
  obtain rfl:=hp;exact ⟨s1,rfl⟩
 | inr _=>
 obtain ⟨z0,z1⟩:=hp;have l0:=jT x0;have l1:=jT x1;have a1:rW x0 ⟨#[10]⟩=some (mkS (blS x0++ [10])):=by
  have:=qV (a:=blS x0) (b:=[10]) (by simp only [bi]; omega);rw [gg] at this;exact this
 have a2:rW (mkS (blS x0++ [10])) x1=some (mkS (blS x0++10 :: blS x1)):=by
  have:=qV (a:=blS x0++ [10]) (b:=blS x1) (by simp only [ag,bi]; omega);rw [gg,aD] at this;exact this
 have e1:cF 10 (blS x0++ [10])=cF 10 (blS x0)++ [[]]:=xP _ _ [] (ao _);have e2:cF 10 (blS x0++10 :: blS x1)=cF 10 (blS x0)++cF 10 (blS x1):=xP _ _ _ (ao _);have n0:∀l∈cF 10 (blS x0),ol l:=fun l hl=>by
  obtain ⟨a,b,e⟩:=vU _ _ (ao _) l hl;exact z0.sub e
 have n1:∀l∈cF 10 (blS x1),ol l:=fun l hl=>by
  obtain ⟨a,b,e⟩:=vU _ _ (ao _) l hl;exact z1.sub e
 have n2:ol []:=fun i=>by simp
 have hn1:∀l∈cF 10 (blS x0++ [10]),ol l:=fun l hl=>by
  rw [e1,uU,eQ] at hl;rcases hl with hl | rfl
  ·exact n0 l hl
  ·exact n2
 have hn2:∀l∈cF 10 (blS x0++10 :: blS x1),ol l:=fun l hl=>by
  rw [e2,uU] at hl;exact hl.elim (n0 l) (n1 l)
 have hl1:(blS x0++ [10]).length≤1000:=by simp only [ag,bi]; omega
 have hl2:(blS x0++10 :: blS x1).length≤1000:=by simp only [ag,ak]; omega
 obtain ⟨t1,m1,o1,r1,g1⟩:=yI s1 _ hl1 hn1;obtain ⟨t2,m2,o2,r2,g2⟩:=yI t1 _ hl2 hn2;obtain ⟨t3,m3,o3,r3,g3⟩:=yI t2 _ hl1 hn1;obtain ⟨t4,m4,o4,r4,g4⟩:=yI t3 (blS x0) (by omega) n0;rw [gg] at r4;rw [g1] at g3;obtain ⟨rfl,rfl⟩:=Db (aH g3);rw [e1] at g1;have g0:=EZ g1;rw [g0] at g4;obtain ⟨rfl,rfl⟩:=Db (aH g4);rw [e2,vN,g0] at g2;obtain ⟨t,rfl⟩:=Aa g2;rw [a1];simp only [bsm];rw [r1];simp only [bsm];rw [a2];simp only [bsm];rw [r2];simp only [bsm,sJ];have c1:=sI (a:=o1++t) (i:=0) (j:=o1.length) (by omega) (by simp);rw [show ((0:Nat):Int)=0 from rfl,iT,qb,nO] at c1;rw [show decide (((o1++t).length:Int)≥(o1.length:Int))=true from bA (by rw [ag]; omega),eO,c1];simp only [bsm,mS,bG];rw [r3];simp only [bsm,mS,bG];rw [r4];simp only [bsm,mS];exact ⟨t4,rfl⟩
end Go.Proofs.YtceciacilfhmjaaGreatDoor
