/- Parts of the proofs of ScriptLines, ScriptReads, ScriptTells: the walk through the code, and plain Lean. No condition. -/
import Derived.Test.YtmncdniojmigeaaGreatDoorSxB
set_option linter.unusedVariables false
set_option linter.unusedSimpArgs false
namespace Go.Proofs.YtmncdniojmigeaaGreatDoor
open Go Go.Lt
theorem nL {w t:List UInt8} (hw:(10:UInt8)∉w) (hl:w.length+t.length+1 < 4294967281):ck (mkS (w++10 :: t)) ⟨#[10]⟩=some (mkS w,mkS t,true):=by
 have hm:(10:UInt8)∈w++10 :: t:=by simp
 have hi:(w++10 :: t).idxOf (10:UInt8)=w.length:=by
  clear hl hm
  induction w with
  | nil=>simp
  | cons x w ih=>
   rw [cg,jx (fun e=>hw (by simp [e])),ih (fun e=>hw (by simp [e]))];rfl
 have e2:blS ⟨#[10]⟩= [10]:=rfl;unfold ck Lib.cut;rw [aU,ac (by rw [aa,ab]; omega),e2,aE,gr,ac hm,ac (by omega),hi];simp only [gH,am];rw [jO,show w++10 :: t=(w++ [10])++t by simp,show w.length+1=(w++ [10]).length by simp,dg]
theorem oD (w h:Int):eK w h=bI 32 [blS fe,Lib.itoa w,Lib.itoa h]++ [10]:=by
 unfold eK;simp only [bI];rw [show blS fe= [115,105,122,101] from rfl];simp
theorem nH {w h:Int} (fw:bw w) (fh:bw h) (s:af):ax ⟨[s]⟩ (some 0) 0 (mkS (bI 32 [blS fe,Lib.itoa w,Lib.itoa h]))=some (⟨[⟨w,h,s.Ops⟩]⟩,Er.nil):=by
 have h1:=cY fw;have h2:=cY fh;have hsz:(bI 32 [blS fe,Lib.itoa w,Lib.itoa h]).length≤100:=by
  simp only [bI,aa,ab];rw [show blS fe= [115,105,122,101] from rfl];simp only [ab,au];omega
 unfold ax;rw [ae (by simp),gN 32 (by rw [aU]; omega),bsm,aE,fJ (by simp) (fun x hx=>by
  simp only [aT,bi,et] at hx;rcases hx with rfl | rfl | rfl
  ·decide
  ·exact fM _ _ (by decide) (by decide)
  ·exact fM _ _ (by decide) (by decide))]
 have hi:idx ([blS fe,Lib.itoa w,Lib.itoa h].map mkS) 0=some fe:=rfl;rw [hi,bsm,ae (by rw [cH]; simp)];have hns:=eW ([blS fe,Lib.itoa w,Lib.itoa h].map mkS) 1 2 (by omega) (by simp) (by simp) (fun v hv=>by
  obtain ⟨x,hx,rfl⟩:=List.mem_map.1 hv;rw [aU];simp only [aT,bi,et] at hx;rcases hx with rfl | rfl | rfl
  ·decide
  ·omega
  ·omega)
 have hd:([blS fe,Lib.itoa w,Lib.itoa h].map mkS).drop 1=nw 2 w h:=rfl;rcases hns with ⟨x,y,fx,fy,_,_,hd2,hr⟩ | ⟨hno,_⟩
 ·rw [show ((1:Nat):Int)=1 from rfl,show ((2:Nat):Int)=2 from rfl] at hr;have e:nw 2 w h=nw 2 x y:=hd.symm.trans hd2;have e2:=cf (List.map blS) e;rw [iA,iA] at e2;have q1:Lib.itoa w=Lib.itoa x:=(bV e2).1;have q2:Lib.itoa h=Lib.itoa y:=(bV (bV e2).2).1;obtain rfl:=gd q1 fw fx;obtain rfl:=gd q2 fh fy;rw [hr,bsm,bsm];simp only [Sto.set_script_Script,aA,bsm,ab,au,dz,ft,ac,dV]
 ·exact absurd hd (hno w h fw fh)
theorem ov {o:aj} (R:Rb o) (s:af) (n:Int) (hn:0 < n) (hl:s.Ops.length≤1000000):ax ⟨[s]⟩ (some 0) n (mkS (dL o))=some (⟨[⟨s.W,s.H,s.Ops++ [o]⟩]⟩,Er.nil):=by
 have hap:app s.Ops [o]=some (s.Ops++ [o]):=jM (by simp only [am]; omega);unfold ax;rw [ac (av hn),jj R.r R.b R.l,bsm,bsm];simp only [Sto.set_script_Script,aA,bsm,ab,au,dz,ft,ac,dV,hap]
theorem mC {w h:Int} (fw:bw w) (fh:bw h) {l:List aj} (hr:∀o∈l,Rb o) (hl:l.length≤1000000) (ht:(dK w h l).length≤65536):cm ⟨[]⟩ (mkS (dK w h l))=some (⟨[⟨w,h,l⟩]⟩,⟨w,h,l⟩,Er.nil):=by
 unfold cm;rw [ae (by rw [ag,gO]; omega),bsm];have hlen:(dK w h l).length=(eK w h).length+(dh l).length:=by
  unfold dK;rw [aa]
 have htl:∀m:List aj,m.length≤(dh m).length:=by
  intro m
  induction m with
  | nil=>simp
  | cons o r ih=>
   simp only [dh,aa,ab];omega
 have h1:=htl l;refine ek (n:=l.length+1) (fun i (a:ByteArray×Int×Sto)=>(i=0∧a=(mkS (dK w h l),0,⟨[⟨0,0,[]⟩]⟩))∨∃j:Nat,i=j+1∧a=(mkS (dh (l.drop j)),(i:Int),⟨[⟨w,h,l.take j⟩]⟩)) (fun t=>t= .inr ⟨[⟨w,h,l⟩]⟩) (fun i a hi hI=>?_) (fun a hI=>?_) (.inl ⟨rfl,rfl⟩) (by rw [aU]; omega) (fun t ht=>by rw [ht]; rfl)
 ·left
  rcases hI with ⟨rfl,rfl⟩ | ⟨j,rfl,rfl⟩
  ·simp only [cF,bsm];rw [ac (by simp)];have e:dK w h l=bI 32 [blS fe,Lib.itoa w,Lib.itoa h]++10 :: dh l:=by
    unfold dK;rw [oD];simp
   have hn10:(10:UInt8)∉bI 32 [blS fe,Lib.itoa w,Lib.itoa h]:=by
    simp only [bI];intro hm;rcases List.mem_append.1 hm with hm | hm
    ·exact absurd hm (by decide)
    ·rcases List.mem_cons.1 hm with hm | hm
     ·exact absurd hm (by decide)
     ·rcases List.mem_append.1 hm with hm | hm
      ·exact pA w hm
      ·rcases List.mem_cons.1 hm with hm | hm
       ·exact absurd hm (by decide)
       ·exact pA h hm
   have hh:(bI 32 [blS fe,Lib.itoa w,Lib.itoa h]).length+(dh l).length+1 < 4294967281:=by
    have:=cf List.length e;rw [aa,ab] at this;omega
   rw [e,nL hn10 hh,bsm,ae (by simp)];simp only;rw [show (([]:List af)).length=0 from rfl,nH fw fh,bsm,ae (by simp [Er.isNil])];exact ⟨_,rfl,.inr ⟨0,rfl,by simp; rfl⟩⟩
  ·have hj:j < l.length:=by omega
   have R:=hr _ (aF hj);simp only [cF,bsm];rw [ac (by
    rw [aw]
    right
    rw [dD];refine jC fun e=>?_;have:=cf blS e;rw [aE,dx hj] at this;simp [dh,blS] at this)]
   rw [dx hj];have hlj:(dh (l.take j)).length+(dL l[j]).length+(dh (l.drop (j+1))).length+1=(dh l).length:=by
    have e:l=l.take j++l[j] :: l.drop (j+1):=by
     rw [←dx hj,fB]
    have:=cf (fun x=>(dh x).length) e;simp only [ff,dh,aa,ab] at this;omega
   simp only [dh];rw [nL (ou R.r R.b) (by omega),bsm,ae (by simp)];simp only;rw [show (([]:List af)).length=0 from rfl,ov R _ _ (by omega) (by simp only; rw [aI]; omega),bsm,ae (by simp [Er.isNil])];refine ⟨_,rfl,.inr ⟨j+1,rfl,?_⟩⟩;rw [an hj];simp only [kp,true_and,and_true];rw [dJ (by omega)];omega
 ·rcases hI with ⟨h0,_⟩ | ⟨j,hj,rfl⟩
  ·omega
  ·have:j=l.length:=by omega
   subst this;simp only [cF,bsm,List.drop_length,bz,dh];rw [ae (by
    rw [aw,ah,show eqS (mkS []) ⟨#[]⟩=true from cH _];simp;omega)]
   exact ⟨_,rfl,rfl⟩
theorem lH (l:List aj) (hl:l.length≤9223372036854775807) (hb:∀o∈l,o.Bytes.length≤140737488355328):∃b,cc l=some b∧(b=false→l.length≤200∧(l.map (·.Bytes.length)).sum≤5000):=by
 unfold cc;have key:∃t,cT (((l.length:Int) - 0).toNat+1) (fun (a:Int×Int)=>
   (bW (decide (a.2 < (l.length:Int))) (some (decide (a.2 < 300)))).bind fun d=>
   if d=true then
   (idx l a.2).bind fun c=>
   if (decide ((w64 (a.1+(c.Bytes.length:Int))) > 5000))=true then
   some (.inr (.inl true))
   else
   some (.inl ((w64 (a.1+(c.Bytes.length:Int))),(w64 (a.2+1))))
   else
   some (.inr (.inr ()))) (0,0)=some t∧(t=(Sum.inl true:Bool ⊕ Unit)∨(t= .inr ()∧(l.length≤300→(l.map (·.Bytes.length)).sum≤5000))):=by
  refine js (fun a:Int×Int=>∃i:Nat,a.2=(i:Int)∧i≤l.length∧i≤300∧a.1=((((l.take i).map (·.Bytes.length)).sum:Nat):Int)∧((l.take i).map (·.Bytes.length)).sum≤5000) (fun a=>l.length - a.2.toNat) _ (fun a hI=>?_) _ _ ⟨0,rfl,eC _,by omega,by simp,by simp⟩ (by simp);obtain ⟨n,i'⟩:=a;obtain ⟨i,rfl,hi,hi3,rfl,hs⟩:=hI;simp only;rw [bA,bsm];by_cases hc:i < l.length∧i < 300
  ·rw [ac (by rw [ai,ag,ag]; omega),dM hc.1,bsm];have h1:=hb _ (aF hc.1);have ew:w64 (((((l.take i).map (·.Bytes.length)).sum:Nat):Int)+(l[i].Bytes.length:Int))=((((l.take (i+1)).map (·.Bytes.length)).sum:Nat):Int):=by
    rw [an hc.1,dZ,List.sum_append,dJ (by omega)];simp
   rw [ew,dy hc.1 (by omega)];by_cases hg:((l.take (i+1)).map (·.Bytes.length)).sum > 5000
   ·right
    rw [ac (av (by omega))];exact ⟨_,rfl,.inl rfl⟩
   ·left
    rw [ae (by rw [ag]; omega)];exact ⟨_,rfl,⟨i+1,rfl,hc.1,by omega,rfl,by omega⟩,by simp; omega⟩
  ·right
   rw [ae (by rw [ai,ag,ag]; omega)];refine ⟨_,rfl,.inr ⟨rfl,fun h3=>?_⟩⟩;have:i=l.length:=by omega
   rw [this,bz] at hs;exact hs
 obtain ⟨t,ht,hp⟩:=key;rcases hp with rfl | ⟨rfl,h⟩
 ·exact ⟨true,cO ht rfl,fun q=>(by cases q)⟩
 ·refine ⟨_,cO ht rfl,fun q=>?_⟩;rw [ce] at q;exact ⟨by omega,h (by omega)⟩
theorem kT:∀l:List aj,(∀o∈l,cz o)→(dh l).length≤2 * (l.map (·.Bytes.length)).sum+61 * l.length
 | [],_=>by simp [dh]
 | o :: r,h=>by
  have h1:=kf (h o (by simp));have h2:=kT r (fun x hx=>h x (by simp [hx]));simp only [dh,aa,ab,fE,List.sum_cons];omega
theorem lV:∀{l:List aj} {o:aj},o∈l→o.Bytes.length≤(l.map (·.Bytes.length)).sum
 | x :: l,o,h=>by
  simp only [fE,List.sum_cons];rcases List.mem_cons.1 h with rfl | h
  ·omega
  ·have:=lV h;omega
theorem om (s:af) (hl:s.Ops.length≤1000000):((∀o∈s.Ops,cz o)∧bw s.W∧bw s.H→(∀o∈s.Ops,Rb o)→(dK s.W s.H s.Ops).length≤1000000000→dG s=some (mkS (dK s.W s.H s.Ops)))∧(¬((∀o∈s.Ops,cz o)∧bw s.W∧bw s.H)→dG s=some ⟨#[]⟩):=by
 obtain ⟨b,e1,e2⟩:=fj s hl;unfold dG;rw [e1,bsm];constructor
 ·intro R hr ht;have ⟨_,fw,fh⟩:=R;have h1:=cY fw;have h2:=cY fh;have s1:(⟨#[115,105,122,101,32]⟩:ByteArray)=mkS [115,105,122,101,32]:=rfl;have s2:(⟨#[32]⟩:ByteArray)=mkS [32]:=rfl;have s3:(⟨#[10]⟩:ByteArray)=mkS [10]:=rfl;rw [e2.2 R,ae (by simp),kH fw,bsm,s1,bX (by simp only [ab,au]; omega),bsm,s2,bX (by simp only [aa,ab,au]; omega),bsm,kH fh,bsm,
   bX (by simp only [aa,ab,au]; omega),bsm,s3,bX (by simp only [aa,ab,au]; omega),bsm]
  have hh: [115,105,122,101,32]++Lib.itoa s.W++ [32]++Lib.itoa s.H++ [10]=eK s.W s.H:=by
   unfold eK;simp
  have hhl:=lg fw fh;have hbapp:∀(a b:List UInt8),a.length+b.length≤1000000000→mS a (mkS b)=some (a++b):=fun a b h=>by
   unfold mS;rw [aU,aE,ac (by omega)]
  rw [hh,hbapp [] _ (by simp only [au]; omega),bsm,dY];refine ek (n:=s.Ops.length) (fun i (a:Int×List UInt8)=>a=((i:Int),eK s.W s.H++dh (s.Ops.take i))) (fun t=>t=dK s.W s.H s.Ops) (fun i a hi hI=>?_) (fun a hI=>?_) (by simp [dh]) (by omega) (fun t ht=>by rw [ht])
  ·subst hI;simp only;rw [ac (dlt hi),dy hi (by omega)];simp only [dM hi,bsm];have R:=hr _ (aF hi);have hle:(dh (s.Ops.take i)).length+(dL s.Ops[i]).length+1≤(dh s.Ops).length:=by
    have e:s.Ops=s.Ops.take i++s.Ops[i] :: s.Ops.drop (i+1):=by
     rw [←dx hi,fB]
    have:=cf (fun x=>(dh x).length) e;simp only [ff,dh,aa,ab] at this;omega
   have htl:(dK s.W s.H s.Ops).length=(eK s.W s.H).length+(dh s.Ops).length:=by
    unfold dK;rw [aa]
   rw [(mb R.b R.l).1 R.r,bsm,bX (by simp only [am]; omega),bsm,hbapp _ _ (by simp only [aa,am]; omega),bsm];refine .inl ⟨_,rfl,?_⟩;rw [an hi,ff,je];simp only [aP]
  ·subst hI;refine ⟨_,by simp only; rw [ae (by simp)],?_⟩;rw [bz];rfl
 ·intro R;have:b=false:=by
   cases b with
   | false=>rfl
   | true=>exact absurd (e2.1 rfl) R
  rw [this,ac (by simp)]
theorem mB (w h:Int) (l:List aj) (hl:l.length≤1000000):∃b,bZ w h l=some b∧(b=true↔(∀o∈l,cz o)∧bw w∧bw h):=by
 unfold bZ;have key:∃t,cT (((l.length:Int) - 0).toNat+1) (fun (b:Int)=>
   if (decide (b < (l.length:Int)))=true then
   (idx l b).bind fun d=>
   (aB d).bind fun e=>
   if (!e)=true then
   some (.inr (.inl false))
   else
   some (.inl ((w64 (b+1))))
   else
   some (.inr (.inr ()))) 0=some t∧((t=(Sum.inl false:Bool ⊕ Unit)∧¬∀o∈l,cz o)∨(t= .inr ()∧∀o∈l,cz o)):=by
  refine fo (n:=l.length) (fun i (a:Int)=>a=(i:Int)∧∀o∈l.take i,cz o) _ (fun i a hi hI=>?_) (fun a hI=>?_) ⟨rfl,by simp⟩ (by omega)
  ·obtain ⟨rfl,h⟩:=hI;obtain ⟨b,e1,e2⟩:=ji l[i];rw [ac (dlt hi),dM hi,bsm,e1,bsm,dy hi (by omega)]
   cases b with
   | true=>
    left
    refine ⟨_,by rw [ae (by simp)],rfl,fun o ho=>?_⟩;rw [an hi] at ho;rcases List.mem_append.1 ho with ho | ho
    ·exact h o ho
    ·rw [List.mem_singleton.1 ho]; exact e2.1 rfl
   | false=>
    right
    refine ⟨_,by rw [ac (by simp)],.inl ⟨rfl,fun q=>?_⟩⟩;have:=e2.2 (q _ (aF hi));cases this
  ·obtain ⟨rfl,h⟩:=hI;rw [bz] at h;exact ⟨_,by rw [ae (by simp)],.inr ⟨rfl,h⟩⟩
 obtain ⟨t,ht,hp⟩:=key;rcases hp with ⟨rfl,hh⟩ | ⟨rfl,hh⟩
 ·exact ⟨false,cO ht rfl,fun q=>(by cases q),fun q=>absurd q.1 hh⟩
 ·obtain ⟨a,a1,a2⟩:=gS w;obtain ⟨b,b1,b2⟩:=gS h;refine ⟨a && b,cO ht ?_,?_⟩
  ·simp only;rw [a1,bsm,b1,bsm,bA,bsm]
  ·rw [ai,a2,b2];exact ⟨fun q=>⟨hh,q⟩,fun q=>q.2⟩
theorem iq (s:af) (hl:s.Ops.length≤9223372036854775807) (hb:∀o∈s.Ops,bytes o.Bytes∧o.Bytes.length≤140737488355328):∃st,bl ⟨[]⟩ s=some (st,true):=by
 obtain ⟨g,g1,g2⟩:=lH s.Ops hl (fun o ho=>(hb o ho).2);unfold bl;rw [kq,bsm,ef,cX,g1,bsm,bsm]
 cases g with
 | true=>
  rw [ac rfl,bsm];exact ⟨_,rfl⟩
 | false=>
  rw [ae (by simp)];obtain ⟨h200,hsum⟩:=g2 rfl;have hl2:s.Ops.length≤1000000:=by omega
  obtain ⟨t1,t2⟩:=om s hl2;obtain ⟨b,b1,b2⟩:=mB s.W s.H s.Ops hl2;obtain ⟨c,c1,c2⟩:=fj s hl2;by_cases R:(∀o∈s.Ops,cz o)∧bw s.W∧bw s.H
  ·have hr:∀o∈s.Ops,Rb o:=fun o ho=>⟨R.1 o ho,(hb o ho).1,by have:=lV ho; omega⟩;have hlen:(dK s.W s.H s.Ops).length≤65536:=by
    have h1:=lg R.2.1 R.2.2;have h2:=kT s.Ops R.1;unfold dK;rw [aa];omega
   rw [t1 R hr (by omega),bsm,b1,bsm,b2.2 R,ae (by simp),mC R.2.1 R.2.2 hr hl2 hlen,bsm,c1,bsm,c2.2 R,ef,cX,jh R.2.1 R.2.2 hr hl2 (by omega),bsm,bsm,cH];simp only [cF,bsm,Er.isNil,ef,Bool.or_false,bne_self_eq_false];rw [ae (by simp)];refine ⟨⟨[⟨s.W,s.H,s.Ops⟩]⟩,ek (n:=s.Ops.length) (fun i (a:Int)=>a=(i:Int)) (fun t=>t= .inr ()) (fun i a hi hI=>?_) (fun a hI=>?_) rfl (by omega) (fun t ht=>by rw [ht])⟩
   ·subst hI;rw [ac (dlt hi),dM hi,bsm,bsm,dy hi (by omega)];obtain ⟨z,z1,z2⟩:=ku (a:=s.Ops[i]) (b:=s.Ops[i]) (hb _ (aF hi)).1 (hb _ (aF hi)).1;rw [z1,bsm,z2.2 rfl,ae (by simp)];exact .inl ⟨_,rfl,rfl⟩
   ·subst hI;exact ⟨_,by rw [ae (by simp)],rfl⟩
  ·have hb':b=false:=by
    cases b with
    | false=>rfl
    | true=>exact absurd (b2.1 rfl) R
   have hc':c=false:=by
    cases c with
    | false=>rfl
    | true=>exact absurd (c2.1 rfl) R
   rw [t2 R,bsm,b1,bsm,hb',ac (by simp),cH,dH,c1,bsm,bsm,hc'];exact ⟨_,rfl⟩
end Go.Proofs.YtmncdniojmigeaaGreatDoor
