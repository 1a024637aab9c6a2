/- Parts of the proofs of PlaySteps: the walk through the code, and plain Lean. No condition. -/
import Derived.Test.YtclmdpamofdoiaaGreatDoorPtA
import Derived.OpenShut
import Derived.LaidLaws
import Derived.Handed
import Derived.Lay
import Derived.JoinedOf
import Derived.KernelRfl
import Derived.SizedLaws
import Derived.Test.YtclmdpamofdoiaaGreatDoorPtC
import Derived.Test.YtclmdpamofdoiaaGreatDoorPtB
set_option linter.unusedVariables false
set_option linter.unusedSimpArgs false
namespace Go.Lt
open Go.ChangeShapes Go.WideShapes Go.RowKit
def C0 (w:World):Cx:=⟨w,fun _ _=>False,fun _ _=>none⟩
theorem I3 (w:World):Own (C0 w) (fun _ _=>[]) []:=
 ⟨⟨fun i e h=>by cases i <;> simp [at_] at h,fun i j e e' h=>by cases i <;> simp [at_] at h⟩,fun _ _ _=>rfl⟩
theorem im0 {w:World}{b o:Nat}{v:Value}(h:w.cell? ⟨b,o,none⟩=some v):Im (C0 w) b o v:=by
 refine ⟨?_,id,h⟩;unfold World.cell? at h;split at h
 ·rename_i hh; exact (Array.getElem?_eq_some_iff.1 hh).1
 ·cases h
def Rd (P:Program) (t:TypeId){α:Type}(R:Rp α) (K:α->Prop):Prop:=
 P.cellsOf t=R.size/\∀{H:Type}{enc:TypeId×Value->H}{w:World}{sp:Nat->Bool}{held:Bool}{fuel:Nat}{cs:List Value}{x:DataW H×List MemPlace},
  DataW.trod enc P w 0 sp held fuel t cs=some x->∃y,R.cells (C0 w) cs y/\K y
theorem Rd.int {P:Program}{t:TypeId}{k:IntKind}(ht:P.underlying t=some (.int k)) (hc:P.cellsOf t=1):Rd P t (RI k) (fun n=>(Lit.int k n).wf=true):=
 ⟨hc,fun h=>by obtain ⟨n,rfl,_,hw⟩:=DataW.trod_int ht h; exact ⟨n,rfl,hw⟩⟩
theorem Ig {α:Type}{Q:Nat->α->Prop}:∀n,(∀i,i<n->∃x,Q i x)->∃xs:List α,xs.length=n/\∀i x,xs[i]? = some x->Q i x
 | 0,_=>⟨[],rfl,fun i x h=>by simp at h⟩
 | n+1,h=>by
  obtain ⟨xs,hl,hx⟩:=Ig n fun i hi=>h i (Nat.lt_succ_of_lt hi);obtain ⟨y,hy⟩:=h n (Nat.lt_succ_self n);refine ⟨xs++ [y],by simp [hl],fun i x hi=>?_⟩;rw [fU] at hi;split at hi
  ·exact hx i x hi
  ·rename_i hn
   have h1:=(List.getElem?_eq_some_iff.1 hi).1;simp only [aK,aP] at h1;obtain rfl:i=n:=by omega
   rw [hl,oh] at hi;cases hi;exact hy
theorem zN {w:World}{a:Addr}{n:Nat}{cs:List Value}(h:w.cells? 0 a n=some cs):cs.length=n/\∀j u,cs[j]? = some u->w.cell? (a.add j)=some u:=by
 unfold World.cells? at h;rw [ae (cE _)] at h;have hl:cs.length=n:=by simpa using mapM_some_length h
 refine ⟨hl,fun j u hu=>?_⟩;have hjn:j<n:=by have:=(List.getElem?_eq_some_iff.1 hu).1; omega
 have hj:=mapM_some_get h j j (dC hjn);rw [hu] at hj;exact hj
section
variable {P:Program}{H:Type}{enc:TypeId×Value->H}{w:World}{sp:Nat->Bool}{held:Bool}{t:TypeId}{v:Value}{d:DataW H}{p:List MemPlace}
end
theorem tz {H:Type}{enc:TypeId×Value->H}{P:Program}(hl:laidOutB P=true){w w':World}(h:∀k,k<w.heap.size->w'.heap[k]? = w.heap[k]?){sp:Nat->Bool}:
  ∀{ts:List TypeId}{vs:List Value}{ds:List (DataW H)}{ps:List MemPlace},(ts.all fun t=>P.readableRec t && decide (t<P.types.size))=true->(∀x∈ps,x.block<w.heap.size)->(∀x∈ps,sp x.block=true)->
  DataW.TrodAll enc P w 0 (fun _=>true) true ts vs ds ps->DataW.TrodAll enc P w' 0 sp true ts vs ds ps
 | [],[],[],_,_,_,_,hA=>hA
 | [],_::_,_,_,_,_,_,hA=>hA.elim
 | [],[],_::_,_,_,_,_,hA=>hA.elim
 | _::_,[],_,_,_,_,_,hA=>hA.elim
 | _::_,_::_,[],_,_,_,_,hA=>hA.elim
 | t::ts,v::vs,d::ds,ps,hr,hlt,hsp,hA=>by
  obtain ⟨p,q,h1,h2,rfl⟩:=hA;simp only [List.all_cons,av,an] at hr;refine ⟨p,q,WideElems.Trod_stays hl hr.1.1 hr.1.2 h1 (fun x hx=>?_) (fun x hx=>hsp x (fT _ hx)),tz hl h hr.2 (fun x hx=>hlt x (vB _ hx)) (fun x hx=>hsp x (vB _ hx)) h2,rfl⟩;have hb:=hlt x (fT _ hx)
  cases x with
  | cell b o=>exact kg (w:=w) (h b hb)
  | map b=>exact h b hb
theorem Cj {H:Type}{enc:TypeId×Value->H}{P:Program}{f:Func}{s:ChangeSpec}{apart fresh handsOn again:Bool}{w w':World}{args:Array Value}{v:Value}{ds gs:List (DataW H)}{ps before:List MemPlace}
  (hW:DataW.Whole enc P f.params.toList s.vars apart w args.toList ds gs before) (he:before=ps++ [])
  (hr:∀(b:Nat) (sp:Nat->Bool) (hd:Bool),DataW.TrodAll enc P w' b sp hd f.resultTypes.toList (v.resultList f.resultTypes.size) (s.fn H (ds++gs)).results [])
  (ha:∀sp:Nat->Bool,(∀x∈ps,sp x.block=true)->DataW.TrodAll enc P w' 0 sp true f.params.toList args.toList (s.fn H (ds++gs)).args ps)
  (hv:∀sp:Nat->Bool,DataW.TrodVars enc P w' sp s.vars (s.fn H (ds++gs)).vars [])
  (hg:Gr w w') (ho:∀(j:Nat) (t:TypeId) (r:Value),f.resultTypes[j]? = some t->(v.resultList f.resultTypes.size)[j]? = some r->Value.okWide P w' .any 0 t r):s.post enc P f apart fresh handsOn again w args v w':=by
 rw [eM] at he;subst he;have hlt:∀x∈before,x.block<w.heap.size:=fun x hx=>hW.lt x hx;refine ⟨ds,gs,before,[],before,[],hW,hr _ _ _,ha _ (fun x hx=>wA (hlt x hx)),hv _,Jd (fun x hx=>⟨hx,.inr (.inl hx)⟩) (hg.frame (· ∈before)),fun _=>?_⟩;obtain ⟨_,_,_,_,_,hz,hn⟩:=hW;refine ⟨ho,_,_,([]++before)++ [],⟨[]++before,[],trodAll_append (ha _ fun _ _=>rfl) (hr _ _ _),hv _,rfl,fun b off hb=>?_,fun e=>?_⟩,fun x hx _=>by simpa using hx⟩
 ·have hb':MemPlace.cell b off∈before:=by simpa using hb
  have:=hlt _ hb';rw [hg.2.1 ⟨b,off,none⟩ this];exact hz b off (by simpa using hb')
 ·simpa using hn e
theorem Iq {P:Program}{laid:List (String×DataW Unit)}{w:World}(h:(laid.filter fun x=>x.2.handleName?.isSome)= []):laidMetH P laid w=laidMet P laid w:=by
 unfold laidMetH;rw [h]
theorem xD {P:Program}{W:World}{ti tp te ts:TypeId}{ms:Array (String×TypeId)}{f:Field}(hi:P.underlying ti=some (.interface ms)) (hrow:∀u,P.typeName? 3 u=some "*errors.errorString"->u=tp)
  (hp:P.underlying tp=some (.pointer te)) (he:P.underlying te=some (.struct #[f])) (hft:f.type=ts) (hfo:f.offset=0) (hs:P.underlying ts=some .string) (hc:P.cellsOf te=1) (hcs:P.cellsOf ts=1):
  ∀{laid:List (String×DataW Unit)}{ps:List MemPlace},DataW.LaidVars P W laid ps->(∀b off,MemPlace.cell b off∈ps->(∃c t,W.heap[b]? = some (.cells c t (0,0)))/\∀u v,W.cell? ⟨b,off,none⟩=some (.iface u v)->Value.okWide P W .any 0 u v)->
  ∀n text g,(n,DataW.iface "*errors.errorString" (.ptr (.agg [.lit (.string text)])))∈laid->P.globalNamed n=some g->(P.globals[g]?).map (·.type)=some ti->∃a s,W.cell? ⟨g,0,none⟩=some (.iface tp (.pointer (some a)))/\W.cell? a=some (.string s)/\s.data.toList=text/\∃c t,W.heap[a.block]? = some (.cells c t (0,0))
 | [],_,_,_,_,_,_,hm,_,_=>by cases hm
 | (n',d)::r,ps,⟨g',t,cs,fuel,p,q,hg',ht',hv,hd,hr,e⟩,hrows,n,text,g,hm,hg,ht=>by
  subst e;rcases List.mem_cons.1 hm with hh|hm
  ·cases hh;obtain rfl:=bj (hg.symm.trans hg');obtain rfl:=bj (ht.symm.trans ht');obtain ⟨l⟩:=cs;have ok:∀u v,l= [.iface u v]->Value.okWide P W .any 0 u v:=fun u v e=>by
    subst e;exact (hrows g 0 (by simp [MemPlace.row])).2 u v (by simpa using CW hg hv 0)
   obtain ⟨a,s,rfl,h1,h2,_,rfl⟩:=errorString_of_trod hi hrow hp he hft hfo hs hc hcs hd ok;exact ⟨a,s,by simpa using CW hg hv 0,h1,h2,(hrows a.block a.off (by simp [MemPlace.row])).1⟩
  ·exact xD hi hrow hp he hft hfo hs hc hcs hr (fun b off hb=>hrows b off (vB _ hb)) n text g hm hg ht
theorem G8 {P:Program}{f:FuncId}{fn:Func}{s:ChangeSpec}{c:OpenClaim}(l1:laidOutB P=true) (l2:mapsRowed P=true) (l3:(P.stops== [])=true) (l4:(P.stopKnobs== [])=true) (l5:P.stopsHeard=true) (l6:P.mayEnter=true)
  (l7:(c.lifted==P.liftsFinal)=true) (l8:(P.make==some c.make)=true) (l9:(c.plainKeys==P.plainKeys)=true)
  (a0:c.wf (OpenSpec.ofChange s)=true) (a1:(fn.params.all (P.readableRec ·) && namedTie P c.named s.vars && (c.stops== []) && (c.knobs== []))=true)
  (a2:(c.inPlace==P.inPlace f)=true) (a3:(c.unfollowed==P.unfollowed f)=true) (a4:(c.recurses==P.recurses f)=true) (a5:(c.named==P.varsNamed f)=true)
  (a6:((c.maps==(fn.params.toList++s.plain.varTypes P).any (P.mapsRec ·)) && (c.ifaces==(fn.params.toList++s.plain.varTypes P).any (P.ifacesRec ·)) && (c.mapsOut==P.mapsAmong fn.resultTypes.toList) &&
   (c.loops==(fn.params.toList++s.plain.varTypes P).any (P.loopsFrom ·)) && (c.wideKeys==(fn.params.toList++s.plain.varTypes P++fn.resultTypes.toList).any (P.wideKeysFrom ·)) &&
   s.vars.all (P.varReadable ·) && fn.resultTypes.all (fun t=>P.readableRec t && decide (t<P.types.size)) && (c.ifacesOut==fn.resultTypes.toList.any (P.ifacesRec ·)) && (c.loopsOut==fn.resultTypes.toList.any (P.loopsFrom ·)))=true)
  (a7:(c.shortTexts.isNone && (c.kinds==(if c.domain.isEmpty then [] else fn.params.toList.map fun t=>match P.underlying t with|some (.int k)=>some k|_=>none)) && (c.pinned==c.pinnedBy) &&
   (c.veiled==(fn.params.toList++s.plain.varTypes P++fn.resultTypes.toList).any (P.veiledRec ·)) && c.veiledFits P fn.params.toList (fn.params.toList++s.plain.varTypes P++fn.resultTypes.toList))=true):joinedFacts P f fn s c=true:=by
 simp only [av] at a1 a6 a7;obtain ⟨⟨⟨b1,b2⟩,b3⟩,b4⟩:=a1;obtain ⟨⟨⟨⟨⟨⟨⟨⟨c1,c2⟩,c3⟩,c4⟩,c5⟩,c6⟩,c7⟩,c8⟩,c9⟩:=a6;obtain ⟨⟨⟨⟨d1,d2⟩,d3⟩,d4⟩,d5⟩:=a7;unfold joinedFacts;simp only [av];exact ⟨⟨⟨⟨⟨⟨⟨⟨⟨⟨⟨⟨⟨⟨⟨⟨⟨⟨⟨⟨⟨⟨⟨⟨⟨⟨⟨⟨⟨⟨⟨a0,l1⟩,l2⟩,b1⟩,b2⟩,b3⟩,l3⟩,b4⟩,l4⟩,a2⟩,a3⟩,a4⟩,a5⟩,c1⟩,c2⟩,c3⟩,c4⟩,c5⟩,c6⟩,c7⟩,c8⟩,c9⟩,l9⟩,d1⟩,l5⟩,l6⟩,l7⟩,l8⟩,d2⟩,d3⟩,d4⟩,d5⟩
end Go.Lt
namespace Go.Proofs.YtclmdpamofdoiaaGreatDoor
open Go Go.Lt
set_option linter.unusedVariables false
theorem I5 {α:Type}{cs:List α}(h:cs.length=4):∃a0 a1 a2 a3,cs= [a0,a1,a2,a3]:=by
 match cs,h with
 | [a0,a1,a2,a3],_=>exact ⟨_,_,_,_,rfl⟩
theorem I6 {α:Type}{cs:List α}(h:cs.length=3):∃a0 a1 a2,cs= [a0,a1,a2]:=by
 match cs,h with
 | [a0,a1,a2],_=>exact ⟨_,_,_,rfl⟩
def K_3 (n:Int):Prop:=(Lit.int .i64 n).wf=true
theorem D_3:Rd Tryz.prog 3 (RI .i64) K_3:=Rd.int Tryz.underlying3 (by kernel_rfl)
def K_5 (n:Int):Prop:=(Lit.int .u8 n).wf=true
theorem D_5:Rd Tryz.prog 5 (RI .u8) K_5:=Rd.int Tryz.underlying5 (by kernel_rfl)
theorem I1 (w:World):Rel (C0 w) ⟨[],[],[],[],[],[]⟩ (fun _ _=>[]):=
 ⟨⟨fun k x h=>by simp at h,fun _ _=>rfl⟩,⟨fun k x h=>by simp at h,fun _ _=>rfl⟩,⟨fun k x h=>by simp at h,fun _ _=>rfl⟩,⟨fun k x h=>by simp at h,fun _ _=>rfl⟩,⟨fun k x h=>by simp at h,fun _ _=>rfl⟩,⟨fun k x h=>by simp at h,fun _ _=>rfl⟩⟩
theorem HS: "*" ++ "errors.errorString" = "*errors.errorString" :=by decide
set_option maxRecDepth 100000 in
theorem Di (u:TypeId) (h:Tryz.prog.typeName? 3 u=some "*errors.errorString"):u=350:=
 typeName_ptr_named (nm:= "errors.errorString") (by rw [HS]; kernel_rfl) (by kernel_rfl) (by decide) u (by rw [HS]; exact h)
set_option maxRecDepth 100000 in
theorem ow {W:World}{laid:List (String×DataW Unit)}(h:laidMetH Tryz.prog laid W) (hf:(laid.filter fun x=>x.2.handleName?.isSome)= []) (n:String) (text:List UInt8) (g:Nat)
  (hm:(n,DataW.iface "*errors.errorString" (.ptr (.agg [.lit (.string text)])))∈laid) (hg:Tryz.prog.globalNamed n=some g) (ht:(Tryz.prog.globals[g]?).map (·.type)=some 66):
  ∃a s,Im (C0 W) g 0 (.iface 350 (.pointer (some a)))/\W.cell? a=some (.string s)/\s.data.toList=text/\RE 350 144 (C0 W) (.iface 350 (.pointer (some a))) (.sent g):=by
 rw [Iq hf] at h;obtain ⟨ps,hl,_,hr⟩:=h;obtain ⟨a,s,h1,h2,h3,cs,t,h4⟩:=xD Tryz.underlying66 Di Tryz.underlying350 Tryz.underlying371 rfl rfl Tryz.underlying9 (by kernel_rfl) (by kernel_rfl) hl hr n text g hm hg ht;exact ⟨a,s,im0 h1,h2,h3,a,rfl,im0 h1,(Array.getElem?_eq_some_iff.1 h4).1,fun _=>id,cs,t,h4⟩
theorem Ha {W:World}{n:List Nat}(tx:Nat->List UInt8) (h:∀g,g∈n->∃a s,Im (C0 W) g 0 (.iface 350 (.pointer (some a)))/\W.cell? a=some (.string s)/\s.data.toList=tx g/\RE 350 144 (C0 W) (.iface 350 (.pointer (some a))) (.sent g))
  (hd:∀g,g∈n->∀g',g'∈n->tx g=tx g'->g=g'):Gl n (C0 W):=by
 refine ⟨fun g hg=>?_,fun g g' hg hg' hne a h1 h2=>?_⟩
 ·obtain ⟨a,_,_,_,_,h4⟩:=h g hg;exact ⟨_,h4⟩
 ·obtain ⟨a1,s1,e1,e2,e3,_⟩:=h g hg;obtain ⟨a2,s2,f1,f2,f3,_⟩:=h g' hg';have q1:=e1.cell.symm.trans h1.cell;have q2:=f1.cell.symm.trans h2.cell;cases q1;cases q2;have q3:=e2.symm.trans f2;cases q3;exact hne (hd g hg g' hg' (e3.symm.trans f3))
end Go.Proofs.YtclmdpamofdoiaaGreatDoor
namespace Go.Lt
open Go.ChangeShapes Go.WideShapes Go.RowKit
def RdM (P:Program) (t:TypeId){α:Type}(R:Rp α) (K:α->Prop):Prop:=
 P.cellsOf t=R.size/\∀{H:Type}{enc:TypeId×Value->H}{w:World}{sp:Nat->Bool}{held:Bool}{fuel:Nat}{cs:List Value}{x:DataW H×List MemPlace},
  DataW.trod enc P w 0 sp held fuel t cs=some x->(∀n∈x.1.weights P t,n<=reachBytes)->∃y,R.cells (C0 w) cs y/\K y
theorem Rd.m {P:Program}{t:TypeId}{α:Type}{R:Rp α}{K:α->Prop}(h:Rd P t R K):RdM P t R K:=⟨h.1,fun hd _=>h.2 hd⟩
theorem uU {H:Type}{P:Program}{e:TypeId}:∀{l:List (DataW H)}{i:Nat}{d:DataW H},l[i]? = some d->∀n∈d.weights P e,n∈DataW.weightsAll P e l
 | d0::l,0,d,h,n,hn=>by
  simp only [ul,aV] at h;subst h;simp only [DataW.weightsAll,vm];exact Or.inl hn
 | d0::l,i+1,d,h,n,hn=>by
  simp only [Gg] at h;simp only [DataW.weightsAll,vm];exact Or.inr (uU h n hn)
 | [],_,_,h,_,_=>by simp at h
theorem RdM.slice {P:Program}{t e:TypeId}{α:Type}{R:Rp α}{K:α->Prop}(ht:P.underlying t=some (.slice e)) (hc:P.cellsOf t=1) (h0:0<R.size) (hb:0<P.bytesOf e) (h:RdM P e R K):RdM P t (RL R) (fun xs=>xs.length<=reachBytes/\∀x∈xs,K x):=by
 refine ⟨hc,fun {H enc w sp held fuel cs x} hd hw=>?_⟩;rcases DataW.trod_slice ht hd with ⟨rfl,_⟩|⟨a,len,cap,elems,rest,n,_,rfl,hx,_,hl,hm,hlen,hel,_,_⟩
 ·exact ⟨[],⟨_,rfl,Sl.nl R _⟩,cE _,fun x hx=>by cases hx⟩
 ·subst hx;simp only [DataW.weights,ht] at hw;have hlr:len<=reachBytes:=by
   have h1:=hw _ (List.mem_cons_self ..);have h2:len<=((elems.map (·.1)).length+(rest.map (·.1)).length)*P.bytesOf e:=by
    rw [dq,hlen];exact dt (Nat.le_add_right _ _) (Nat.le_mul_of_pos_right _ hb)
   omega
  obtain ⟨b,o,s⟩:=a;have key:∀i,i<len->∃x,K x/\∃b' off l,(some ⟨b,o,s⟩:Option Addr)=some ⟨b',off,none⟩/\R.cells (C0 w) l x/\∀j u,l[j]? = some u->Im (C0 w) b' (off+i*R.size+j) u:=by
   intro i hi;have hs:s=none:=by
    have hE:=hel 0 (by omega);rw [ag (show 0<elems.length by omega),Gf] at hE;obtain ⟨cs,hcs,_⟩:=hE;obtain ⟨c1,c2⟩:=zN hcs;have hp:0<cs.length:=by rw [c1,h.1]; exact h0
    have:=World.cell?_spot (c2 0 _ (ag hp));simpa [Addr.add] using this
   subst hs;have hE:=hel i hi;rw [ag (show i<elems.length by omega),Gf] at hE;obtain ⟨cs,hcs,hr⟩:=hE;obtain ⟨c1,c2⟩:=zN hcs;have hget:(elems.map (·.1))[i]? = some elems[i].1:=by
    rw [bK,ag (show i<elems.length by omega)];rfl
   obtain ⟨x,hx,hk⟩:=h.2 hr fun n hn=>hw n (wT _ (fT _ (uU hget n hn)));refine ⟨x,hk,b,o,cs,rfl,hx,fun j u hu=>im0 ?_⟩;have:=c2 j u hu;rw [Gk,Gk,h.1] at this;exact this
  obtain ⟨xs,hxl,hxs⟩:=Ig len key;subst hxl;refine ⟨xs,⟨_,rfl,some ⟨b,o,s⟩,cap,rfl,hl,hm,fun i x hx=>(hxs i x hx).2⟩,hlr,fun x hx=>?_⟩;obtain ⟨i,hi⟩:=List.mem_iff_getElem?.1 hx;exact (hxs i x hi).1
theorem RdM.field {P:Program}{H:Type}{enc:TypeId×Value->H}{w:World}{sp:Nat->Bool}{held:Bool}{n:Nat}{cs:List Value}{t:TypeId}{fs:Array Field}{xs:List (DataW H×List MemPlace)}
  (ht:P.underlying t=some (.struct fs)) (hw:∀m∈(DataW.agg (xs.map (·.1)):DataW H).weights P t,m<=reachBytes)
  (hf:∀(i:Nat) (f:Field),fs[i]? = some f->DataW.trod enc P w 0 sp held n f.type ((cs.drop f.offset).take (P.cellsOf f.type))=xs[i]?) (hx:xs.length=fs.size)
  (i:Nat){f:Field}(hi:fs[i]? = some f){α:Type}{R:Rp α}{K:α->Prop}(h:RdM P f.type R K):∃y,R.cells (C0 w) ((cs.drop f.offset).take R.size) y/\K y:=by
 have hlt:=(Array.getElem?_eq_some_iff.1 hi).1;have:=hf i f hi;have hxi:=ag (show i<xs.length by omega);rw [hxi,h.1] at this;refine h.2 this fun m hm=>hw m ?_;simp only [DataW.weights,ht];refine DataW.weights_mem_each (j:=i) (t:=f.type) (d:=xs[i].1) ?_ ?_ m hm
 ·rw [bK,HP,hi];rfl
 ·rw [bK,hxi];rfl
end Go.Lt
namespace Go.Lt
theorem Ez {P:Program}{H:Type}{enc:TypeId×Value->H}{w:World}{sp:Nat->Bool}{held:Bool}{t:TypeId}{v:Value}{d:DataW H}{p:List MemPlace}{α:Type}{R:Rp α}{K:α->Prop}{fs:Array Field}(ht:P.underlying t=some (.struct fs)) (h:RdM P t R K) (hok:Value.okWide P w .any 0 t v) (hd:DataW.Trod enc P w 0 sp held t v d p)
  (hw:∀n∈d.weights P t,n<=reachBytes):∃cs x,v= .agg cs/\R.cells (C0 w) cs.toList x/\K x:=by
 obtain ⟨fuel,hd⟩:=hd;obtain ⟨x,hx,hk⟩:=h.2 hd hw;unfold Value.okWide at hok;rw [ht] at hok;obtain ⟨cs,rfl,_⟩:=hok;exact ⟨cs,x,rfl,hx,hk⟩
end Go.Lt
namespace Go.Proofs.YtclmdpamofdoiaaGreatDoor
open Go Go.Lt Go.ChangeShapes Go.WideShapes Go.RowKit
set_option maxRecDepth 100000
def Gi (xs:List Int):Prop:=xs.length<=reachBytes/\∀x∈xs,K_5 x
theorem IR:RdM Tryz.prog 33 (RL (RI .u8)) Gi:=RdM.slice Tryz.underlying33 (by kernel_rfl) (by decide) (by rw [show Tryz.prog.bytesOf 5=1 by kernel_rfl]; decide) D_5.m
def Gh (x:aM):Prop:=K_3 x.Kind/\K_3 x.A/\K_3 x.B/\Gi x.Bytes
theorem IQ:RdM Tryz.prog 38 jK Gh:=by
 refine ⟨by kernel_rfl,fun {H enc w sp held fuel cs x} h hw=>?_⟩;obtain ⟨xs,n,rfl,rfl,hl,hn,hf⟩:=Js Tryz.underlying38 h;replace hl:=hl.trans (show Tryz.prog.cellsOf 38=4 by kernel_rfl);obtain ⟨a0,a1,a2,a3,rfl⟩:=I5 hl;obtain ⟨y0,e0,k0⟩:=RdM.field Tryz.underlying38 hw hf hn 0 rfl D_3.m;have e0: [a0]= [.int .i64 y0]:=e0;cases e0;obtain ⟨y1,e1,k1⟩:=RdM.field Tryz.underlying38 hw hf hn 1 rfl D_3.m;have e1: [a1]= [.int .i64 y1]:=e1;cases e1;obtain ⟨y2,e2,k2⟩:=RdM.field Tryz.underlying38 hw hf hn 2 rfl D_3.m;have e2: [a2]= [.int .i64 y2]:=e2;cases e2;obtain ⟨y3,e3,k3⟩:=RdM.field Tryz.underlying38 hw hf hn 3 rfl IR;obtain ⟨v3,e3,s3⟩:=e3;have e3: [a3]= [v3]:=e3;cases e3;exact ⟨⟨y0,y1,y2,y3⟩,⟨_,rfl,s3⟩,k0,k1,k2,k3⟩
def Gj (xs:List aM):Prop:=xs.length<=reachBytes/\∀x∈xs,Gh x
theorem IU:RdM Tryz.prog 22 (RL jK) Gj:=RdM.slice Tryz.underlying22 (by kernel_rfl) (by decide) (by rw [show Tryz.prog.bytesOf 38=48 by kernel_rfl]; decide) IQ
def IM (x:aZ):Prop:=K_3 x.W/\K_3 x.H/\Gj x.Ops
theorem IP:RdM Tryz.prog 79 vA IM:=by
 refine ⟨by kernel_rfl,fun {H enc w sp held fuel cs x} h hw=>?_⟩;obtain ⟨xs,n,rfl,rfl,hl,hn,hf⟩:=Js Tryz.underlying79 h;replace hl:=hl.trans (show Tryz.prog.cellsOf 79=3 by kernel_rfl);obtain ⟨a0,a1,a2,rfl⟩:=I6 hl;obtain ⟨y0,e0,k0⟩:=RdM.field Tryz.underlying79 hw hf hn 0 rfl D_3.m;have e0: [a0]= [.int .i64 y0]:=e0;cases e0;obtain ⟨y1,e1,k1⟩:=RdM.field Tryz.underlying79 hw hf hn 1 rfl D_3.m;have e1: [a1]= [.int .i64 y1]:=e1;cases e1;obtain ⟨y2,e2,k2⟩:=RdM.field Tryz.underlying79 hw hf hn 2 rfl IU;obtain ⟨v2,e2,s2⟩:=e2;have e2: [a2]= [v2]:=e2;cases e2;exact ⟨⟨y0,y1,y2⟩,⟨_,rfl,s2⟩,k0,k1,k2⟩
end Go.Proofs.YtclmdpamofdoiaaGreatDoor
namespace Go.Proofs.YtclmdpamofdoiaaGreatDoor
structure Sg where
 some:Bool
 last:Int
 pict:Int
 conj:Int
 odd:Bool
def sg0:Sg:=⟨false,0,0,0,false⟩
def nxP (s:Int) (p:aw):Int:=if p.Pict=true then 1 else if s=1/\p.Break=4 then 1 else if s=1/\p.Break=5 then 2 else 0
def nxC (s:Int) (p:aw):Int:=if p.Conj=1 then 1 else if s=0 then 0 else if p.Conj=2 then 2 else if p.Conj=3 then s else 0
def sgN (s:Sg) (p:aw):Sg:=⟨true,p.Break,nxP s.pict p,nxC s.conj p,p.Break==6 && !(s.some && s.last==6 && s.odd)⟩
def sgF (l:List aw):Sg:=l.foldl sgN sg0
def sgJ (pj:Int->Int->Int) (s:Sg) (p:aw):Bool:=
 s.some && ((p.Conj==1 && s.conj==2) || (p.Pict && s.pict==2) || pj s.last p.Break==1 || (pj s.last p.Break==2 && s.last==6 && s.odd))
def cj:List aw->Nat->Bool
 | [],_=>false
 | x::l,n=>if x.Conj=1 then decide (0<n) else if x.Conj=2 then cj l (n+1) else if x.Conj=3 then cj l n else false
def pk:List aw->Bool
 | []=>false
 | x::l=>if x.Pict=true then true else if x.Break=4 then pk l else false
def ri:List aw->Nat
 | []=>0
 | x::l=>if x.Break=6 then ri l+1 else 0
def rj (pj:Int->Int->Int) (l:List aw) (p:aw):Bool:=
 match l with
 | []=>false
 | a::l'=>pj a.Break p.Break==1 || (p.Conj==1 && cj (a::l') 0) || (p.Pict && (!a.Pict && a.Break==5 && pk l')) || (pj a.Break p.Break==2 && p.Break==6 && ri (a::l') % 2==1)
def pst:List aw->Int
 | []=>0
 | x::l=>nxP (pst l) x
def cst:List aw->Int
 | []=>0
 | x::l=>nxC (cst l) x
def hb:List aw->Int
 | []=>0
 | x::_=>x.Break
def od:List aw->Bool
 | []=>false
 | x::l=>x.Break==6 && !(!l.isEmpty && hb l==6 && od l)
theorem GC (l:List aw):sgF l=⟨!l.reverse.isEmpty,hb l.reverse,pst l.reverse,cst l.reverse,od l.reverse⟩:=by
 have key:∀r:List aw,sgF r.reverse=⟨!r.isEmpty,hb r,pst r,cst r,od r⟩:=by
  intro r
  induction r with
  | nil=>rfl
  | cons x r ih=>
   unfold sgF at ih|-;rw [Jo,lU,ih];rfl
 have:=key l.reverse
 rwa [IK] at this
theorem GL (l:List aw):pk l=decide (pst l=1):=by
 induction l with
 | nil=>rfl
 | cons x l ih=>
  unfold pk pst nxP;by_cases h1:x.Pict=true
  ·rw [ae h1,ae h1]; rfl
  ·rw [af h1,af h1];by_cases h2:x.Break=4
   ·rw [ae h2,ih];by_cases h3:pst l=1
    ·rw [ae ⟨h3,h2⟩]; simp [h3]
    ·rw [af (fun q=>h3 q.1),af (fun q=>h3 q.1)]; simp [h3]
   ·rw [af h2,af (fun q=>h2 q.2)];split <;> rfl
theorem Hp (l:List aw) (n:Nat):cj l n=decide (cst l=2\/(cst l≠0/\0<n)):=by
 induction l generalizing n with
 | nil=>rfl
 | cons x l ih=>
  unfold cj cst nxC;by_cases h1:x.Conj=1
  ·rw [ae h1,ae h1];simp
  ·rw [af h1,af h1];by_cases h2:x.Conj=2
   ·rw [ae h2,ih];by_cases h0:cst l=0
    ·rw [ae h0]; simp [h0]
    ·rw [af h0,ae h2]; simp [h0]
   ·rw [af h2];by_cases h3:x.Conj=3
    ·rw [ae h3,ih];by_cases h0:cst l=0
     ·rw [ae h0,h0]
     ·rw [af h0,af h2,ae h3]
    ·rw [af h3];by_cases h0:cst l=0
     ·rw [ae h0]; rfl
     ·rw [af h0,af h2,af h3]; rfl
theorem HY (l:List aw):od l=(ri l % 2==1):=by
 induction l with
 | nil=>rfl
 | cons x l ih=>
  unfold od ri;by_cases h:x.Break=6
  ·rw [ae h,ih];have hb':(x.Break==6)=true:=by simp [h]
   rw [hb',dH]
   cases l with
   | nil=>rfl
   | cons y l=>
    by_cases h2:y.Break=6
    ·have e:(hb (y::l)==6)=true:=by simp [hb,h2]
     rw [e];simp only [Jq,eL,dH];rw [cu];simp only [dI,dA,aT];omega
    ·have e:(hb (y::l)==6)=false:=by simp [hb,h2]
     rw [e];simp only [EJ,mw,eL];have:ri (y::l)=0:=by unfold ri; rw [af h2]
     rw [this];rfl
  ·rw [af h];simp [h]
theorem GB (pj:Int->Int->Int) (hp:∀a b,pj a b=2->(a=6↔b=6)) (l:List aw) (p:aw):sgJ pj (sgF l) p=rj pj l.reverse p:=by
 rw [GC];generalize l.reverse=r
 cases r with
 | nil=>rfl
 | cons a r=>
  unfold sgJ rj;simp only [Jq,eL,dH,hb];rw [Hp,GL,<-HY];have e1:(cst (a::r)==2)=decide (cst (a::r)=2\/(cst (a::r)≠0/\0<0)):=by
   rw [cu]; simp
  have e2:(pst (a::r)==2)=(!a.Pict && a.Break==5 && decide (pst r=1)):=by
   rw [cu];simp only [aT,av,dI,an];show nxP (pst r) a=2↔_;unfold nxP;by_cases h1:a.Pict=true
   ·rw [ae h1,h1]; simp
   ·rw [af h1];simp only [un] at h1;by_cases h2:pst r=1/\a.Break=4
    ·rw [ae h2]; simp [h1,h2]
    ·rw [af h2];by_cases h3:pst r=1/\a.Break=5
     ·rw [ae h3]; simp [h1,h3]
     ·rw [af h3];simp only [h1];constructor
      ·intro e; exact absurd e (by decide)
      ·rintro ⟨⟨_,q1⟩,q2⟩; exact absurd ⟨q2,q1⟩ h3
  have e3:(pj a.Break p.Break==2 && a.Break==6 && od (a::r))=(pj a.Break p.Break==2 && p.Break==6 && od (a::r)):=by
   by_cases h:pj a.Break p.Break=2
   ·have e6:(a.Break==6)=(p.Break==6):=by
     rw [cu,aT,aT];exact hp _ _ h
    rw [e6]
   ·have e7:(pj a.Break p.Break==2)=false:=by rw [dA]; exact h
    rw [e7];rfl
  rw [e1,e2,e3]
  cases (p.Conj==1 && decide (cst (a::r)=2\/(cst (a::r)≠0/\0<0))) <;> cases (p.Pict && (!a.Pict && a.Break==5 && decide (pst r=1))) <;> cases (pj a.Break p.Break==1) <;> rfl
structure Sq (s t:Sg):Prop where
 pict:s.pict=t.pict
 conj:s.conj=t.conj
 odd:s.odd=t.odd
theorem GA {s t:Sg}(h:Sq s t) (h1:s.odd=true->s.some=true/\s.last=6) (h2:t.odd=true->t.some=true/\t.last=6) (p:aw):sgN s p=sgN t p:=by
 unfold sgN;rw [h.pict,h.conj]
 congr 2
 have:(s.some && s.last==6 && s.odd)=(t.some && t.last==6 && t.odd):=by
  have ho:=h.odd;rw [cu];simp only [av,aT];constructor
  ·rintro ⟨_,q⟩;have:=h2 (ho▸ q);exact ⟨this,ho▸ q⟩
  ·rintro ⟨_,q⟩;have:=h1 (ho▸ q);exact ⟨this,ho▸ q⟩
 rw [this]
end Go.Proofs.YtclmdpamofdoiaaGreatDoor
namespace Go.Proofs.YtclmdpamofdoiaaGreatDoor
def ED (c:List (List Int)) (r:Int):List (List Int):=c.dropLast++ [c.getLast?.getD []++ [r]]
theorem pE (c:List (List Int)) (x:List Int) (r:Int):ED (c++ [x]) r=c++ [x++ [r]]:=by
 unfold ED;simp
section
variable (pj:Int->Int->Int) (pr:Int->aw)
def clS (l:List Int):List (List Int)×Sg:=l.foldl (fun a r=>(if sgJ pj a.2 (pr r)=true then ED a.1 r else a.1++ [[r]],sgN a.2 (pr r))) ([],sg0)
def cls (l:List Int):List (List Int):=(clS pj pr l).1
def jn (l:List Int) (r:Int):Bool:=sgJ pj (sgF (l.map pr)) (pr r)
theorem vR (l:List aw) (x:aw):sgF (l++ [x])=sgN (sgF l) x:=by
 unfold sgF;rw [lU];rfl
theorem IE (l:List Int):(clS pj pr l).2=sgF (l.map pr):=by
 have key:∀(l:List Int) (a:List (List Int)×Sg),(l.foldl (fun a r=>(if sgJ pj a.2 (pr r)=true then ED a.1 r else a.1++ [[r]],sgN a.2 (pr r))) a).2=(l.map pr).foldl sgN a.2:=by
  intro l
  induction l with
  | nil=>intro a; rfl
  | cons r l ih=>intro a; rw [JE,ih,tu,JE]
 exact key l _
theorem BE:cls pj pr []= []:=rfl
theorem tZ (l:List Int) (r:Int):cls pj pr (l++ [r])=if jn pj pr l r=true then ED (cls pj pr l) r else cls pj pr l++ [[r]]:=by
 unfold cls jn;rw [<-IE pj];unfold clS;rw [lU];rfl
theorem xE {l:List Int}{r:Int}(h:jn pj pr l r=true):l≠ []:=by
 rintro rfl;simp [jn,sgJ,sgF,sg0] at h
end
theorem tE {P:List Int->Prop}(h0:P []) (h1:∀l r,P l->P (l++ [r])) (l:List Int):P l:=by
 have key:∀l:List Int,P l.reverse:=by
  intro l
  induction l with
  | nil=>exact h0
  | cons r l ih=>rw [Jo]; exact h1 _ _ ih
 have:=key l.reverse
 rwa [IK] at this
theorem jN {α:Type}{l:List α}(h:l≠ []):∃l0 x,l=l0++ [x]:=⟨l.dropLast,l.getLast h,(List.dropLast_concat_getLast h).symm⟩
variable {pj:Int->Int->Int}{pr:Int->aw}
theorem rk (l:List Int):(cls pj pr l).flatten=l/\(∀c∈cls pj pr l,c≠ [])/\(l≠ []->cls pj pr l≠ []):=by
 refine tE (P:=fun l=>(cls pj pr l).flatten=l/\(∀c∈cls pj pr l,c≠ [])/\(l≠ []->cls pj pr l≠ [])) ⟨rfl,fun c hc=>by simp [BE] at hc,fun h=>absurd rfl h⟩ (fun l r ih=>?_) l;obtain ⟨h1,h2,h3⟩:=ih;rw [tZ];split
 ·rename_i hj
  obtain ⟨c0,x,e⟩:=jN (h3 (xE pj pr hj));rw [e] at h1 h2|-;rw [pE];refine ⟨?_,fun c hc=>?_,fun _=>by simp⟩
  ·rw [<-h1]; simp
  ·rcases List.mem_append.1 hc with hc|hc
   ·exact h2 c (fT _ hc)
   ·rw [List.mem_singleton.1 hc]; simp
 ·refine ⟨by rw [xk,h1]; simp,fun c hc=>?_,fun _=>by simp⟩;rcases List.mem_append.1 hc with hc|hc
  ·exact h2 c hc
  ·rw [List.mem_singleton.1 hc]; simp
theorem zM {l:List Int}{x:Int}{c0:List (List Int)}{c:List Int}(h:cls pj pr (l++ [x])=c0++ [c]):∃c',c=c'++ [x]:=by
 obtain ⟨h1,h2,_⟩:=rk (pj:=pj) (pr:=pr) (l++ [x]);rw [h] at h1 h2;obtain ⟨c',y,rfl⟩:=jN (h2 c (by simp));refine ⟨c',?_⟩;rw [xk] at h1;simp only [lV,List.flatten_nil,eM] at h1;rw [<-aO] at h1;have:=HI h1 rfl;rw [List.singleton_inj.1 this]
section
variable (pj:Int->Int->Int) (pr:Int->aw)
def sts (l:List Int):List Nat:=(List.range l.length).filter fun i=> !jn pj pr (l.take i) (l.getD i 0)
theorem vQ (l:List Int) (r:Int):sts pj pr (l++ [r])=sts pj pr l++(if jn pj pr l r=true then [] else [l.length]):=by
 unfold sts;rw [aA,HM,qe,List.filter_append]
 congr 1
 ·refine List.filter_congr fun i hi=>?_;have hi:=List.mem_range.1 hi;rw [di (by omega)]
  congr 2
  rw [ao,ao,aL hi]
 ·rw [List.filter_cons,List.filter_nil];have e1:(l++ [r]).take l.length=l:=by simp
  have e2:(l++ [r]).getD l.length 0=r:=by simp
  rw [e1,e2]
  cases jn pj pr l r <;> rfl
end
theorem Al {l:List Int}{i:Nat}(h:i∈sts pj pr l):i<l.length:=by
 unfold sts at h;exact List.mem_range.1 (List.mem_filter.1 h).1
theorem Gt {l:List Int}(h:l≠ []):sts pj pr l≠ []:=by
 refine tE (P:=fun l=>l≠ []->sts pj pr l≠ []) (fun h=>absurd rfl h) (fun l r ih _=>?_) l h;rw [vQ];split
 ·rename_i hj
  intro e;exact ih (xE pj pr hj) (by simpa using e)
 ·simp
def slx (l:List Int) (a b:Nat):List Int:=(l.drop a).take (b-a)
def pcs (l:List Int) (a:List Nat):List (List Int):=(List.range (a.length-1)).map fun i=>slx l (a.getD i 0) (a.getD (i+1) 0)
theorem wg (l:List Int) (B:List Nat) (a b:Nat):pcs l (B++ [a]++ [b])=pcs l (B++ [a])++ [slx l a b]:=by
 unfold pcs;have e1:(B++ [a]++ [b]).length-1=B.length+1:=by simp
 have e2:(B++ [a]).length-1=B.length:=by simp
 rw [e1,e2,qe,bU]
 congr 1
 ·refine dB fun i hi=>?_;have hi:=List.mem_range.1 hi;have g:∀j,j<B.length+1->(B++ [a]++ [b]).getD j 0=(B++ [a]).getD j 0:=fun j hj=>by
   rw [ao,ao,aL (by simp; omega)]
  rw [g i (by omega),g (i+1) (by omega)]
 ·simp
theorem ES {l:List Int}{a b:Nat}(h:b<=l.length) (r:List Int):slx (l++r) a b=slx l a b:=by
 unfold slx;rcases aQ a l.length with ha|ha
 ·rw [iJ (by omega),di (by simp; omega)]
 ·rw [show b-a=0 by omega,eK,eK]
theorem Bn {l:List Int}{A:List Nat}(h:∀a∈A,a<=l.length) (r:List Int):pcs (l++r) A=pcs l A:=by
 unfold pcs;refine dB fun i hi=>?_;have hi:=List.mem_range.1 hi;refine ES ?_ r;rw [ao,ag (by omega)];exact h _ (aF _)
theorem yU {l:List Int}{a:Nat}(h:a<=l.length) (r:Int):slx (l++ [r]) a (l.length+1)=slx l a l.length++ [r]:=by
 unfold slx;rw [iJ h,aC (by simp; omega),aC (by simp)]
theorem Fa (l:List Int):pcs l (sts pj pr l++ [l.length])=cls pj pr l:=by
 refine tE (P:=fun l=>pcs l (sts pj pr l++ [l.length])=cls pj pr l) rfl (fun l r ih=>?_) l;have hle:∀a∈sts pj pr l++ [l.length],a<=l.length:=fun a ha=>by
  rcases List.mem_append.1 ha with ha|ha
  ·exact uT (Al ha)
  ·rw [List.mem_singleton.1 ha]; exact az _
 rw [tZ,vQ,aA,HM];split
 ·rename_i hj
  obtain ⟨B,a,e⟩:=jN (Gt (pj:=pj) (pr:=pr) (xE pj pr hj));rw [e] at ih hle|-;rw [eM,wg,<-ih,wg,pE,yU (hle a (by simp)),Bn (fun x hx=>hle x (fT _ hx))]
 ·rw [wg,Bn hle,ih,yU (az _)];simp [slx]
structure Sil (pj:Int->Int->Int) (pr:Int->aw) (sil:Int->Bool):Prop where
 s:∀r,sil r=true->((pr r).Break=1\/(pr r).Break=2\/(pr r).Break=3)/\(pr r).Pict=false/\(pr r).Conj=0
 ja:∀a b,(a=1\/a=2\/a=3)->pj a b≠0->a=1/\b=2
 jb:∀a b,(b=1\/b=2\/b=3)->pj a b≠0->a=1/\b=2
 b:∀r,(pr r).Break=1\/(pr r).Break=2->sil r=true
variable {sil:Int->Bool}
theorem Sil.state (h:Sil pj pr sil) (l:List Int){x:Int}(hx:sil x=true):sgF ((l++ [x]).map pr)=⟨true,(pr x).Break,0,0,false⟩:=by
 obtain ⟨h1,h2,h3⟩:=h.s x hx;rw [bU,yI,vR];unfold sgN nxP nxC;rw [h2,h3,af (by simp),af (by omega),af (by omega),af (by omega)]
 congr 1
 ·split <;> rfl
 ·have e:((pr x).Break==6)=false:=by rw [dA]; omega
  rw [e,mw]
theorem Sil.no (h:Sil pj pr sil) (l:List Int){x r:Int}(hx:sil x=true) (hr:sil r=false):jn pj pr (l++ [x]) r=false:=by
 obtain ⟨h1,_,_⟩:=h.s x hx;unfold jn;rw [h.state l hx];have hz:pj (pr x).Break (pr r).Break=0:=EL fun hne=>by
  have:=h.b r (.inr (h.ja _ _ h1 hne).2);rw [hr] at this;cases this
 simp [sgJ,hz]
theorem Sil.new (h:Sil pj pr sil) (l:List Int){x:Int}(hx:sil x=true) (p:aw):sgN (sgF ((l++ [x]).map pr)) p=sgN sg0 p:=by
 rw [h.state l hx];exact GA (s:=⟨true,(pr x).Break,0,0,false⟩) (t:=sg0) ⟨rfl,rfl,rfl⟩ (fun e=>by simp at e) (fun e=>by simp [sg0] at e) p
theorem Sil.yes (h:Sil pj pr sil){l:List Int}{r:Int}(hr:sil r=true) (hj:jn pj pr l r=true):∃l0 x,l=l0++ [x]/\sil x=true:=by
 obtain ⟨l0,x,rfl⟩:=jN (xE pj pr hj);refine ⟨l0,x,rfl,?_⟩;obtain ⟨h1,h2,h3⟩:=h.s r hr;unfold jn at hj;rw [bU,yI,vR] at hj;have hl:(sgN (sgF (l0.map pr)) (pr x)).last=(pr x).Break:=rfl;unfold sgJ at hj;rw [h2,h3,hl] at hj;have hz:pj (pr x).Break (pr r).Break≠0:=fun e=>by
  rw [e] at hj;simp at hj
 exact h.b x (.inl (h.jb _ _ h1 hz).1)
theorem Sil.all (h:Sil pj pr sil) (l:List Int):∀c∈cls pj pr l,(∀x∈c,sil x=true)\/∀x∈c,sil x=false:=by
 refine tE (P:=fun l=>∀c∈cls pj pr l,(∀x∈c,sil x=true)\/∀x∈c,sil x=false) (fun c hc=>by simp [BE] at hc) (fun l r ih=>?_) l;rw [tZ];split
 ·rename_i hj
  obtain ⟨l0,x,rfl⟩:=jN (xE pj pr hj);obtain ⟨c0,c,e⟩:=jN ((rk (pj:=pj) (pr:=pr) (l0++ [x])).2.2 (by simp));obtain ⟨c',rfl⟩:=zM e;rw [e] at ih|-;rw [pE];intro d hd;rcases List.mem_append.1 hd with hd|hd
  ·exact ih d (fT _ hd)
  ·rw [List.mem_singleton.1 hd];have hc:=ih (c'++ [x]) (by simp)
   cases hr:sil r with
   | true=>
    obtain ⟨l1,y,e1,hy⟩:=h.yes hr hj;have:x=y:=List.singleton_inj.1 (HI e1 rfl);subst this
    left
    rcases hc with hc|hc
    ·intro z hz;rcases List.mem_append.1 hz with hz|hz
     ·exact hc z hz
     ·rw [List.mem_singleton.1 hz]; exact hr
    ·have:=hc x (by simp);rw [hy] at this;cases this
   | false=>
    right
    rcases hc with hc|hc
    ·have:=h.no l0 (hc x (by simp)) hr;rw [this] at hj;cases hj
    ·intro z hz;rcases List.mem_append.1 hz with hz|hz
     ·exact hc z hz
     ·rw [List.mem_singleton.1 hz]; exact hr
 ·intro d hd;rcases List.mem_append.1 hd with hd|hd
  ·exact ih d hd
  ·rw [List.mem_singleton.1 hd]
   cases hr:sil r with
   | true=>left; intro z hz; rw [List.mem_singleton.1 hz]; exact hr
   | false=>right; intro z hz; rw [List.mem_singleton.1 hz]; exact hr
end Go.Proofs.YtclmdpamofdoiaaGreatDoor
namespace Go.Lt
theorem aG {n:Int}(h: -9223372036854775808<=n/\n<=9223372036854775807):w64 n=n:=by
 unfold w64;rw [Ba];omega
theorem xN {n:Int}(h: -2147483648<=n/\n<=2147483647):w32 n=n:=by
 unfold w32;rw [IntKind.wrap_i32];omega
theorem bsm {α β:Type}(a:α) (f:α->Option β):(some a).bind f=f a:=by simp
theorem lX {σ τ:Type}{step:σ->Option (σ ⊕ τ)}(Inv:σ->Prop) (μ:σ->Nat) (post:τ->Prop)
  (h:∀s,Inv s->(∃s',step s=some (.inl s')/\Inv s'/\μ s' < μ s)\/∃t,step s=some (.inr t)/\post t):
  ∀(fuel:Nat) (s:σ),Inv s->μ s<fuel->∃t,cL fuel step s=some t/\post t:=by
 intro fuel
 induction fuel with
 | zero=>intro s _ hm; omega
 | succ k ih=>
  intro s hs hm;rcases h s hs with ⟨s',h1,h2,h3⟩|⟨t,h1,h2⟩
  ·obtain ⟨t,h4,h5⟩:=ih s' h2 (by omega);exact ⟨t,by simp [cL,h1,h4],h5⟩
  ·exact ⟨t,by simp [cL,h1],h2⟩
theorem pO {σ τ:Type}{step:σ->Option (σ ⊕ τ)}(Inv:σ->Prop) (μ:σ->Nat){t:τ}
  (h:∀s,Inv s->(∃s',step s=some (.inl s')/\Inv s'/\μ s' < μ s)\/step s=some (.inr t)){fuel:Nat}{s:σ}(h0:Inv s) (hm:μ s<fuel):cL fuel step s=some t:=by
 obtain ⟨t',h1,h2⟩:=lX Inv μ (fun x=>x=t) (fun s hs=>(h s hs).imp id fun h=>⟨t,h,rfl⟩) fuel s h0 hm;rw [h1,h2]
theorem bD (a b:Bool):orE a (some b)=some (a || b):=by cases a <;> rfl
theorem bi (a b:Bool):bT a (some b)=some (a && b):=by cases a <;> rfl
theorem zm (x:Option Bool):orE true x=some true:=rfl
theorem ez (x:Option Bool):orE false x=x:=rfl
theorem ip (x:Option Bool):bT true x=x:=rfl
theorem iF (x:Option Bool):bT false x=some false:=rfl
theorem tQ {α:Type}(xs:List α) (i:Nat):idx xs (i:Int)=xs[i]? :=by
 unfold idx;rw [ae (Jh i)];rfl
theorem bp {α:Type}{xs:List α}{i:Nat}(h:i<xs.length):idx xs (i:Int)=some xs[i]:=by
 rw [tQ,ag h]
theorem lq {α:Type}{xs:List α}{i:Nat}(h:i<xs.length) (x:α):pJ xs (i:Int) x=some (xs.set i x):=by
 unfold pJ;rw [ae ⟨Jh i,by omega⟩];rfl
theorem cU {α:Type}{xs ys:List α}(h:xs.length+ys.length<=1099511627776):app xs ys=some (xs++ys):=by
 unfold app far;rw [ae h]
theorem oF {α:Type}{n:Int}(x:α) (h:0<=n/\n<=1099511627776):rep n x=some (List.replicate n.toNat x):=by
 unfold rep far;rw [ae (by omega)]
theorem oE {α:Type}{xs:List α}{i j:Nat}(h:i<=j) (h2:j<=xs.length):slc xs i j=some ((xs.drop i).take (j-i)):=by
 unfold slc;rw [ae (by omega)]
 congr 2
 omega
theorem fq (x y:Int):aE x y=max x y:=by unfold aE; split <;> omega
theorem dF (x y:Int):aB x y=min x y:=by unfold aB; split <;> omega
theorem nQ {τ:Type}{step:Int->Option (Int ⊕ τ)}{n:Nat}(hn:n<=9223372036854775807) (post:τ->Prop) (Inv:Nat->Prop) (h0:Inv 0)
  (h:∀i:Nat,i<n->Inv i->(step i=some (.inl ((i+1:Nat):Int))/\Inv (i+1))\/∃t,step i=some (.inr t)/\post t)
  (hend:Inv n->∃t,step n=some (.inr t)/\post t):∃t,cL (((n:Int)-0).toNat+1) step 0=some t/\post t:=by
 refine lX (fun s:Int=>∃i:Nat,s=(i:Int)/\i<=n/\Inv i) (fun s:Int=>n-s.toNat) post (fun s ⟨i,hs,hi,hI⟩=>?_) _ _ ⟨0,rfl,cE _,h0⟩ (by simp);subst hs;rcases aQ i n with hlt|hge
 ·rcases h i hlt hI with ⟨h1,h2⟩|h1
  ·exact .inl ⟨_,h1,⟨i+1,rfl,hlt,h2⟩,by simp; omega⟩
  ·exact .inr h1
 ·obtain rfl:i=n:=by omega
  exact .inr (hend hI)
theorem ep {σ τ:Type}{step:σ->Option (σ ⊕ τ)}{n:Nat}(Inv:Nat->σ->Prop) (post:τ->Prop)
  (h:∀i s,i<n->Inv i s->(∃s',step s=some (.inl s')/\Inv (i+1) s')\/∃t,step s=some (.inr t)/\post t)
  (hend:∀s,Inv n s->∃t,step s=some (.inr t)/\post t){fuel:Nat}{s:σ}(h0:Inv 0 s) (hf:n<fuel):∃t,cL fuel step s=some t/\post t:=by
 have key:∀fuel i s,i<=n->n-i<fuel->Inv i s->∃t,cL fuel step s=some t/\post t:=by
  intro fuel
  induction fuel with
  | zero=>intro i s _ hm; omega
  | succ k ih=>
   intro i s hi hm hs;rcases aQ i n with hlt|hge
   ·rcases h i s hlt hs with ⟨s',h1,h2⟩|⟨t,h1,h2⟩
    ·obtain ⟨t,h4,h5⟩:=ih (i+1) s' hlt (by omega) h2;exact ⟨t,by simp [cL,h1,h4],h5⟩
    ·exact ⟨t,by simp [cL,h1],h2⟩
   ·obtain rfl:i=n:=by omega
    obtain ⟨t,h1,h2⟩:=hend s hs;exact ⟨t,by simp [cL,h1],h2⟩
 exact key fuel 0 s (cE _) (by omega) h0
theorem yD {α β:Type}{x:Option α}{k:α->Option β}{a:α}{r:Option β}(h:x=some a) (h2:k a=r):x.bind k=r:=by rw [h]; exact h2
theorem lP {σ τ β:Type}{step:σ->Option (σ ⊕ τ)}{n:Nat}(Inv:Nat->σ->Prop) (post:τ->Prop){fuel:Nat}{s:σ}{k:τ->Option β}{r:Option β}
  (h:∀i s,i<n->Inv i s->(∃s',step s=some (.inl s')/\Inv (i+1) s')\/∃t,step s=some (.inr t)/\post t)
  (hend:∀s,Inv n s->∃t,step s=some (.inr t)/\post t) (h0:Inv 0 s) (hf:n<fuel) (hk:∀t,post t->k t=r):(cL fuel step s).bind k=r:=by
 obtain ⟨t,h1,h2⟩:=ep Inv post h hend h0 hf;rw [h1];exact hk t h2
theorem nM {σ τ β:Type}{step:σ->Option (σ ⊕ τ)}{n:Nat}(Inv:Nat->σ->Prop) (post:τ->Prop){fuel:Nat}{s:σ}{k:τ->Option β}{p:β->Prop}
  (h:∀i s,i<n->Inv i s->(∃s',step s=some (.inl s')/\Inv (i+1) s')\/∃t,step s=some (.inr t)/\post t)
  (hend:∀s,Inv n s->∃t,step s=some (.inr t)/\post t) (h0:Inv 0 s) (hf:n<fuel) (hk:∀t,post t->∃r,k t=some r/\p r):∃r,(cL fuel step s).bind k=some r/\p r:=by
 obtain ⟨t,h1,h2⟩:=ep Inv post h hend h0 hf;rw [h1];exact hk t h2
theorem Cw {σ τ γ:Type}{step:σ->Option (σ ⊕ τ)}{n:Nat}(Inv:Nat->σ->Prop) (post:τ->Prop){fuel:Nat}{s:σ}{k:τ->Option (γ×Bool)}
  (h:∀i s,i<n->Inv i s->(∃s',step s=some (.inl s')/\Inv (i+1) s')\/∃t,step s=some (.inr t)/\post t)
  (hend:∀s,Inv n s->∃t,step s=some (.inr t)/\post t) (h0:Inv 0 s) (hf:n<fuel) (hk:∀t,post t->∃r,k t=some (r,true)):∃r,(cL fuel step s).bind k=some (r,true):=by
 obtain ⟨t,h1,h2⟩:=ep Inv post h hend h0 hf;rw [h1];exact hk t h2
theorem wq {α τ:Type}{step:List α×Int->Option (List α×Int ⊕ τ)}{n fuel:Nat}(f:Nat->α){t:τ}
  (h:∀i,i<n->step ((List.range i).map f,(i:Int))=some (.inl ((List.range i).map f++ [f i],((i+1:Nat):Int))))
  (hend:step ((List.range n).map f,(n:Int))=some (.inr t)) (hf:n<fuel):cL fuel step ([],0)=some t:=by
 obtain ⟨t',h1,h2⟩:=ep (step:=step) (n:=n) (fuel:=fuel) (s:=([],0)) (fun i s=>s=((List.range i).map f,(i:Int))) (fun t'=>t'=t)
  (fun i s hi e=>by subst e; exact .inl ⟨_,h i hi,by rw [qe,bU]; rfl⟩) (fun s e=>by subst e; exact ⟨t,hend,rfl⟩) rfl hf
 rw [h1,h2]
theorem dL {i n:Nat}(h:i<n) (hn:n<=9223372036854775807):w64 ((i:Int)+1)=((i+1:Nat):Int):=by
 rw [aG (by omega)];simp
theorem dlt {i n:Nat}(h:i<n):decide ((i:Int)<(n:Int))=true:=by simp; exact h
theorem dnl (n:Nat):decide ((n:Int)<(n:Int))=false:=by simp
end Go.Lt
namespace Go.Lt
theorem xG {σ τ β:Type}{step:σ->Option (σ ⊕ τ)}{fuel:Nat}{s:σ}{k:τ->Option β}{r:Option β}(Inv:σ->Prop) (μ:σ->Nat) (post:τ->Prop)
  (h:∀s,Inv s->(∃s',step s=some (.inl s')/\Inv s'/\μ s' < μ s)\/∃t,step s=some (.inr t)/\post t) (h0:Inv s) (hf:μ s<fuel) (hk:∀t,post t->k t=r):(cL fuel step s).bind k=r:=by
 obtain ⟨t,e1,e2⟩:=lX Inv μ post h fuel s h0 hf;rw [e1];exact hk t e2
theorem xF {σ τ β:Type}{step:σ->Option (σ ⊕ τ)}{fuel:Nat}{s:σ}{k:τ->Option β}{p:β->Prop}(Inv:σ->Prop) (μ:σ->Nat) (post:τ->Prop)
  (h:∀s,Inv s->(∃s',step s=some (.inl s')/\Inv s'/\μ s' < μ s)\/∃t,step s=some (.inr t)/\post t) (h0:Inv s) (hf:μ s<fuel) (hk:∀t,post t->∃r,k t=some r/\p r):∃r,(cL fuel step s).bind k=some r/\p r:=by
 obtain ⟨t,e1,e2⟩:=lX Inv μ post h fuel s h0 hf;rw [e1];exact hk t e2
theorem FR {α σ τ:Type}{x:Option α}{k:α->Option (σ ⊕ τ)}{A:σ->Prop}{B:τ->Prop}(post:α->Prop) (hx:∃t,x=some t/\post t)
  (hk:∀t,post t->(∃s',k t=some (.inl s')/\A s')\/∃u,k t=some (.inr u)/\B u):(∃s',x.bind k=some (.inl s')/\A s')\/∃t,x.bind k=some (.inr t)/\B t:=by
 obtain ⟨t,e1,e2⟩:=hx;rw [e1];exact hk t e2
variable {α:Type}{lo hi:α->Int}
def tC (lo hi:α->Int):List α->Bool
 | []=>true
 | x::l=>decide (lo x<=hi x) && (match l with|[]=>true|y::_=>decide (hi x<lo y)) && tC lo hi l
theorem xR:∀{T:List α},tC lo hi T=true->∀i (h:i<T.length),lo T[i]<=hi T[i]
 | [],_,i,h=>by simp at h
 | x::l,hs,i,h=>by
  simp only [tC,av,an] at hs
  cases i with
  | zero=>exact hs.1.1
  | succ i=>exact xR hs.2 i (by simpa using h)
theorem rP:∀{T:List α},tC lo hi T=true->∀i j (h:j<T.length),(hij:i<j)->hi (T[i]'(by omega))<lo T[j]
 | [],_,i,j,h,_=>by simp at h
 | x::l,hs,i,j,h,hij=>by
  have hs0:=hs;simp only [tC,av,an] at hs
  cases j with
  | zero=>omega
  | succ j=>
   have hj:j<l.length:=by simpa using h
   cases i with
   | succ i=>exact rP hs.2 i j hj (by omega)
   | zero=>
    cases l with
    | nil=>simp at hj
    | cons y l'=>
     have h1:hi x<lo y:=by simpa using hs.1.2
     cases j with
     | zero=>exact h1
     | succ j=>
      have h2:=rP hs.2 0 (j+1) hj (by omega);have h3:=xR hs.2 0 (by simp);simp only [HG] at h2 h3;simp only [HG,HH] at h2|-;omega
def onn (lo hi:α->Int) (r:Int) (x:α):Bool:=decide (lo x<=r) && decide (r<=hi x)
theorem tL {r:Int}{x:α}:onn lo hi r x=true↔lo x<=r/\r<=hi x:=by simp [onn]
theorem DI {T:List α}(hs:tC lo hi T=true){r:Int}{i j:Nat}(hi':i<T.length) (hj:j<T.length) (h1:onn lo hi r T[i]=true) (h2:onn lo hi r T[j]=true):i=j:=by
 rw [tL] at h1 h2;rcases Nat.lt_trichotomy i j with h|h|h
 ·have:=rP hs i j hj h;omega
 ·exact h
 ·have:=rP hs j i hi' h;omega
def fnd (lo hi:α->Int) (T:List α) (r:Int):Option α:=T.find? (onn lo hi r)
theorem D4 {T:List α}(hs:tC lo hi T=true){r:Int}{x:α}(hx:x∈T) (h:onn lo hi r x=true):fnd lo hi T r=some x:=by
 unfold fnd;obtain ⟨i,hi',rfl⟩:=List.mem_iff_getElem.1 hx;rw [List.find?_eq_some_iff_getElem];refine ⟨h,i,hi',rfl,fun j hj=>?_⟩
 cases hb:onn lo hi r (T[j]'(by omega)) with
 | false=>rfl
 | true=>exact absurd (DI hs (by omega) hi' hb h) (by omega)
theorem zD {T:List α}{r:Int}(h:∀i (h:i<T.length),onn lo hi r T[i]=false):fnd lo hi T r=none:=by
 unfold fnd;rw [List.find?_eq_none];intro x hx;obtain ⟨i,hi',rfl⟩:=List.mem_iff_getElem.1 hx;simp [h i hi']
theorem yo {T:List α}{r:Int}{x:α}(h:fnd lo hi T r=some x):x∈T/\onn lo hi r x=true:=⟨List.mem_of_find?_eq_some h,List.find?_some h⟩
theorem yp {T:List α}(hs:tC lo hi T=true){r:Int}{i:Nat}(h1:∀j (h:j<T.length),j<i->hi T[j]<r) (h2:∀j (h:j<T.length),i<=j->r<=hi T[j]):
  fnd lo hi T r=if h:i<T.length then (if lo T[i]<=r then some T[i] else none) else none:=by
 have hno:∀j (h:j<T.length),j≠i->onn lo hi r T[j]=false:=fun j h hne=>by
  cases hb:onn lo hi r T[j] with
  | false=>rfl
  | true=>
   rw [tL] at hb;rcases aQ j i with hj|hj
   ·have:=h1 j h hj;omega
   ·have h3:=rP hs i j h (by omega);have h4:=h2 i (by omega) (az _);omega
 split
 ·rename_i hi'
  split
  ·rename_i hl
   exact D4 hs (aF hi') (tL.2 ⟨hl,h2 i hi' (az _)⟩)
  ·rename_i hl
   refine zD fun j h=>?_;by_cases hj:j=i
   ·subst hj
    cases hb:onn lo hi r T[j] with
    | false=>rfl
    | true=>exact absurd (tL.1 hb).1 hl
   ·exact hno j h hj
 ·rename_i hi'
  exact zD fun j h=>hno j h (by omega)
theorem FA {a b:Nat}(h:a+b<=4611686018427387904):w64 ((IntKind.u64.wrap (w64 ((a:Int)+(b:Int)))).fdiv (2 ^ 1))=(((a+b) / 2:Nat):Int):=by
 have e0:w64 ((a:Int)+(b:Int))=((a+b:Nat):Int):=by rw [aG (by omega)]; simp
 have h1:IntKind.u64.wrap ((a+b:Nat):Int)=((a+b:Nat):Int):=by
  have:((a+b:Nat):Int) % 18446744073709551616=((a+b:Nat):Int):=Int.emod_eq_of_lt (by omega) (by omega);simpa [IntKind.wrap,IntKind.bits,IntKind.signed] using this
 have e2:(((a+b:Nat):Int)).fdiv (2 ^ 1)=(((a+b) / 2:Nat):Int):=by
  rw [Int.fdiv_eq_ediv_of_nonneg _ (by decide)];omega
 rw [e0,h1,e2,aG (by omega)]
theorem rQ {T:List α}(hs:tC lo hi T=true) (hl:T.length<=1000000) (r:Int){step:Int×Int->Option (Int×Int ⊕ Int)}
  (h1:∀a b:Nat,(hab:a<b)->(hb:b<=T.length)->step ((a:Int),(b:Int))=some (.inl (if r<=hi (T[(a+b) / 2]'(by omega)) then ((a:Int),(((a+b) / 2:Nat):Int)) else (((((a+b) / 2+1:Nat):Int)),(b:Int)))))
  (h2:∀a:Nat,step ((a:Int),(a:Int))=some (.inr (a:Int))):
  ∃i:Nat,cL (((T.length:Int)-0).toNat+1) step (0,(T.length:Int))=some (i:Int)/\i<=T.length/\(∀j (h:j<T.length),j<i->hi T[j]<r)/\(∀j (h:j<T.length),i<=j->r<=hi T[j]):=by
 have hmono:∀j k (h:k<T.length),(hjk:j<=k)->hi (T[j]'(by omega))<=hi T[k]:=fun j k h hjk=>by
  rcases aQ j k with hlt|hge
  ·have e1:=rP hs j k h hlt;have e2:=xR hs k h;omega
  ·obtain rfl:j=k:=by omega
   exact pG _
 obtain ⟨t,e1,i,e2,e3,e4,e5⟩:=lX (step:=step) (fun q=>∃a b:Nat,q=((a:Int),(b:Int))/\a<=b/\b<=T.length/\(∀j (h:j<T.length),j<a->hi T[j]<r)/\(∀j (h:j<T.length),b<=j->r<=hi T[j]))
  (fun q=>(q.2-q.1).toNat) (fun t=>∃i:Nat,t=(i:Int)/\i<=T.length/\(∀j (h:j<T.length),j<i->hi T[j]<r)/\(∀j (h:j<T.length),i<=j->r<=hi T[j]))
  (by
   rintro q ⟨a,b,rfl,hab,hb,c1,c2⟩;rcases aQ a b with hlt|hge
   ·left
    rw [h1 a b hlt hb];refine ⟨_,rfl,?_⟩;by_cases hr:r<=hi (T[(a+b) / 2]'(by omega))
    ·rw [ae hr];exact ⟨⟨a,(a+b) / 2,rfl,by omega,by omega,c1,fun j h hj=>Int.le_trans hr (hmono _ _ h hj)⟩,by simp only; omega⟩
    ·rw [af hr];refine ⟨⟨(a+b) / 2+1,b,rfl,by omega,hb,fun j h hj=>?_,c2⟩,by simp only; omega⟩;have:=hmono j ((a+b) / 2) (by omega) (by omega);omega
   ·right
    obtain rfl:a=b:=by omega
    exact ⟨_,h2 a,a,rfl,hb,c1,c2⟩)
  (((T.length:Int)-0).toNat+1) (0,(T.length:Int)) ⟨0,T.length,rfl,cE _,az _,fun j h hj=>by omega,fun j h hj=>by omega⟩ (by simp only; omega)
 subst e2;exact ⟨i,e1,e3,e4,e5⟩
def Ip (v:Option Int):Int ⊕ Unit:=match v with|some x=> .inl x|none=> .inr ()
theorem DQ {n:Nat}(hn:n<=1000000){v:Option Int}{step:Int->Option (Int ⊕ (Int ⊕ Unit))}
  (h1:∀k:Nat,k<n->step (k:Int)=if v=some ((k:Int)+1) then some (.inr (.inl ((k:Int)+1))) else some (.inl ((k+1:Nat):Int)))
  (h2:step (n:Int)=some (.inr (.inr ()))) (hv:∀x,v=some x->1<=x/\x<=n):cL (((n:Int)-0).toNat+1) step 0=some (Ip v):=by
 refine pO (fun s=>∃k:Nat,s=(k:Int)/\k<=n/\∀j:Nat,j<k->v≠some ((j:Int)+1)) (fun s=>((n:Int)-s).toNat) ?_ ⟨0,rfl,cE _,fun j hj=>by omega⟩ (by omega);rintro s ⟨k,rfl,hk,hno⟩;rcases aQ k n with hlt|hge
 ·rw [h1 k hlt];by_cases he:v=some ((k:Int)+1)
  ·rw [ae he]
   right
   subst he;rfl
  ·rw [af he];refine .inl ⟨_,rfl,⟨k+1,rfl,by omega,fun j hj=>?_⟩,by omega⟩;by_cases hjk:j=k
   ·subst hjk; exact he
   ·exact hno j (by omega)
 ·obtain rfl:k=n:=by omega
  rw [h2]
  right
  cases v with
  | none=>rfl
  | some x=>
   obtain ⟨e1,e2⟩:=hv x rfl;exact absurd (show some x=some (((x-1).toNat:Int)+1) by congr 1; omega) (hno (x-1).toNat (by omega))
theorem uF {n fuel:Nat}{β:Type}{kk:Int ⊕ Unit->Option β}{rr:Option β}(hn:n<=1000000){v:Option Int}{step:Int->Option (Int ⊕ (Int ⊕ Unit))}
  (h1:∀k:Nat,k<n->step (k:Int)=if v=some ((k:Int)+1) then some (.inr (.inl ((k:Int)+1))) else some (.inl ((k+1:Nat):Int)))
  (h2:step (n:Int)=some (.inr (.inr ()))) (hv:∀x,v=some x->1<=x/\x<=n) (hf:fuel=((n:Int)-0).toNat+1) (hk:kk (Ip v)=rr):(cL fuel step 0).bind kk=rr:=by
 subst hf;rw [DQ hn h1 h2 hv];exact hk
def lk (T:List (Int×Int×Int)) (r:Int):Option Int:=(fnd (fun x=>x.1) (fun x=>x.2.1) T r).map (fun x=>x.2.2)
def wZ (l:List (Int×Int)) (r:Int):Bool:=l.any (onn (fun x=>x.1) (fun x=>x.2) r)
def ofv (T:List (Int×Int×Int)) (v:Int):List (Int×Int):=(T.filter (fun x=>x.2.2==v)).map (fun x=>(x.1,x.2.1))
theorem yj {T:List (Int×Int×Int)}(hs:tC (fun x=>x.1) (fun x=>x.2.1) T=true) (v r:Int):wZ (ofv T v) r=decide (lk T r=some v):=by
 unfold wZ ofv lk;rw [List.any_map,List.any_filter]
 cases hf:fnd (fun x=>x.1) (fun x=>x.2.1) T r with
 | none=>
  simp only [JA,reduceCtorEq,decide_false];rw [Jr];intro x hx;unfold fnd at hf;have:=List.find?_eq_none.1 hf x hx;simp only [Function.comp,av,zp];intro _;simpa [onn] using this
 | some x=>
  obtain ⟨h1,h2⟩:=yo hf;simp only [fH,aV];by_cases hv:x.2.2=v
  ·rw [wA hv,A9];exact ⟨x,h1,by simp only [Function.comp,av,aT]; exact ⟨hv,h2⟩⟩
  ·rw [decide_eq_false hv,Jr];intro y hy;simp only [Function.comp,av,aT,zp];intro e
   cases hb:onn (fun x:Int×Int=>x.1) (fun x=>x.2) r (y.1,y.2.1) with
   | false=>simp
   | true=>
    have:=D4 hs hy (show onn (fun x:Int×Int×Int=>x.1) (fun x=>x.2.1) r y=true from hb);rw [hf] at this;cases this;exact absurd e hv
theorem DP {T:List (Int×Int×Int)}{p:Int->Bool}(h:T.all (fun x=>p x.2.2)=true){r v:Int}(hv:lk T r=some v):p v=true:=by
 unfold lk at hv;obtain ⟨x,hx,rfl⟩:=Option.map_eq_some_iff.1 hv;exact List.all_eq_true.1 h x (yo hx).1
end Go.Lt
namespace Go.Proofs.YtclmdpamofdoiaaGreatDoor
open Go Go.Lt
set_option maxRecDepth 100000
def gT:List (Int×Int×Int):=match ni with|some t=>t|none=>[]
def pT:List (Int×Int):=match lZ with|some t=>t|none=>[]
def cT:List (Int×Int×Int):=match mg with|some t=>t|none=>[]
def eT:List (Int×Int×Int):=match mf with|some t=>t|none=>[]
theorem Ix:ni=some gT:=rfl
theorem Il:lZ=some pT:=rfl
theorem IH:mg=some cT:=rfl
theorem IB:mf=some eT:=rfl
theorem He:tC (fun x=>x.1) (fun x=>x.2.1) gT=true:=by kernel_rfl
theorem Ij:tC (fun x=>x.1) (fun x=>x.2) pT=true:=by kernel_rfl
theorem Hs:tC (fun x=>x.1) (fun x=>x.2.1) cT=true:=by kernel_rfl
theorem Hk:tC (fun x=>x.1) (fun x=>x.2.1) eT=true:=by kernel_rfl
theorem Hf:gT.length<=1000000:=by
 have:Nat.ble gT.length 1000000=true:=by kernel_rfl
 exact bJ this
theorem GQ:pT.length<=1000000:=by
 have:Nat.ble pT.length 1000000=true:=by kernel_rfl
 exact bJ this
theorem Ht:cT.length<=1000000:=by
 have:Nat.ble cT.length 1000000=true:=by kernel_rfl
 exact bJ this
theorem Hl:eT.length<=1000000:=by
 have:Nat.ble eT.length 1000000=true:=by kernel_rfl
 exact bJ this
theorem I7:gT.all (fun x=>decide (1<=x.2.2) && decide (x.2.2<=8))=true:=by kernel_rfl
theorem Jc:cT.all (fun x=>decide (1<=x.2.2) && decide (x.2.2<=3))=true:=by kernel_rfl
theorem Ja:eT.all (fun x=>decide (1<=x.2.2) && decide (x.2.2<=3))=true:=by kernel_rfl
def hcl (r:Int):Int:=
 if (4352<=r/\r<=4447)\/(43360<=r/\r<=43388) then 9
 else if (4448<=r/\r<=4519)\/(55216<=r/\r<=55238) then 10
 else if (4520<=r/\r<=4607)\/(55243<=r/\r<=55291) then 11
 else if r<44032\/55203<r then 0
 else if (r-44032) % 28=0 then 12 else 13
def r32 (r:Int):Prop:= -2147483648<=r/\r<=2147483647
theorem r32.w {r:Int}(h:r32 r):w64 r=r:=by unfold r32 at h; exact aG (by omega)
theorem qg {α:Type}{b:Bool}{p:Prop}[Decidable p] (h:b=true↔p) (x y:α):(if b=true then x else y)=if p then x else y:=by
 by_cases hp:p
 ·rw [ae hp,ae (h.2 hp)]
 ·rw [af hp,af (fun e=>hp (h.1 e))]
theorem tD {α:Type}{p:Prop}[Decidable p] (x y:α):(if p then some x else some y)=some (if p then x else y):=by split <;> rfl
theorem tS (r:Int) (h:r32 r):kG r=some (hcl r):=by
 unfold r32 at h;unfold kG kq ib hcl;simp only [bi,bsm,bD];have hw:44032<=r->r<=55203->(w32 (r-44032)).tmod 28=(r-44032) % 28:=fun h1 h2=>by
  rw [xN (by omega),EI (by omega)]
 rw [qg (p:=(4352<=r/\r<=4447)\/(43360<=r/\r<=43388)) (by simp),qg (p:=(4448<=r/\r<=4519)\/(55216<=r/\r<=55238)) (by simp),qg (p:=(4520<=r/\r<=4607)\/(55243<=r/\r<=55291)) (by simp)];rw [qg (p:=r<44032\/55203<r) (by simp)];by_cases hs:r<44032\/55203<r
 ·simp only [ae hs,tD]
 ·simp only [af hs];rw [hw (by omega) (by omega)];rw [qg (p:=(r-44032) % 28=0) (by simp)];simp only [tD]
theorem Ca (r:Int) (h1:44032<=r) (h2:r<=55203):∃x,dJ r=some x/\(x.1≠0/\(x.2.2=0↔(r-44032) % 28=0)):=by
 have hw:w64 r=r:=aG (by omega);unfold dJ;simp only [hw,bD,bsm];rw [af (by simp; omega)];refine xF (fun q=>∃i:Nat,i<=19/\q=((44032+588*(i:Int),4352+(i:Int)):Int×Int)/\44032+588*(i:Int)<=r) (fun q=>(4371-q.2).toNat)
  (fun t=>∃x:Int×Int×Int,t= .inl x/\(x.1≠0/\(x.2.2=0↔(r-44032) % 28=0))) ?_ ⟨0,by omega,by simp,by omega⟩ (by simp only; omega) ?_
 ·rintro q ⟨i,hi,rfl,hir⟩;by_cases hi2:i=19
  ·subst hi2;omega
  dsimp only
  rw [ae (by simp; omega)];refine FR (fun t=>(∃x:Int×Int×Int,t= .inl x/\(x.1≠0/\(x.2.2=0↔(r-44032) % 28=0)))\/(t= .inr (44032+588*((i+1:Nat):Int))/\44032+588*((i+1:Nat):Int)<=r))
   (lX (fun q=>∃j:Nat,j<=21/\q=((44032+588*(i:Int)+28*(j:Int),4449+(j:Int)):Int×Int)/\44032+588*(i:Int)+28*(j:Int)<=r) (fun q=>(4470-q.2).toNat) _ ?_ _ _ ⟨0,by omega,by simp,by omega⟩ (by simp only; omega)) ?_
  ·rintro q ⟨j,hj,rfl,hjr⟩
   dsimp only
   by_cases hj2:j=21
   ·subst hj2
    right
    refine ⟨.inr (44032+588*((i+1:Nat):Int)),?_,.inr ⟨rfl,by omega⟩⟩;rw [af (by simp),show (44032+588*(i:Int)+28*((21:Nat):Int))=44032+588*((i+1:Nat):Int) by omega]
   ·rw [ae (by simp; omega),aG (by omega)];by_cases hlt:r<44032+588*(i:Int)+28*(j:Int)+28
    ·right
     rw [ae (by simpa using hlt)];rw [show w64 (4519+r)=4519+r from aG (by omega),aG (by omega)];by_cases hz:4519+r-(44032+588*(i:Int)+28*(j:Int))=4519
     ·rw [ae (by simpa using hz)];exact ⟨_,rfl,.inl ⟨_,rfl,by show 4352+(i:Int)≠0; omega,by show (0:Int)=0↔_; simp; omega⟩⟩
     ·rw [af (by simpa using hz)];exact ⟨_,rfl,.inl ⟨_,rfl,by show 4352+(i:Int)≠0; omega,by show 4519+r-(44032+588*(i:Int)+28*(j:Int))=0↔_; omega⟩⟩
    ·left
     rw [af (by simpa using hlt),aG (by omega)];exact ⟨_,rfl,⟨j+1,by omega,by simp only [iq]; omega,by omega⟩,by omega⟩
  ·rintro t (⟨x,rfl,hx⟩|⟨rfl,hx⟩)
   ·exact .inr ⟨_,rfl,x,rfl,hx⟩
   ·refine .inl ⟨_,rfl,⟨i+1,by omega,?_,by omega⟩,?_⟩
    ·rw [aG (by omega)];exact Prod.ext rfl (by show 4352+(i:Int)+1=4352+((i+1:Nat):Int); omega)
    ·rw [aG (by omega)];omega
 ·rintro t ⟨x,rfl,hx⟩;exact ⟨x,rfl,hx⟩
theorem Cc (r:Int) (h:r32 r):eE r=some (hcl r):=by
 have hw:=h.w;unfold r32 at h;unfold eE hcl;simp only [hw,bi,bsm,bD];rw [qg (p:=(4352<=r/\r<=4447)\/(43360<=r/\r<=43388)) (by simp),qg (p:=(4448<=r/\r<=4519)\/(55216<=r/\r<=55238)) (by simp),qg (p:=(4520<=r/\r<=4607)\/(55243<=r/\r<=55291)) (by simp)];by_cases hs:r<44032\/55203<r
 ·have:dJ r=some (0,0,0):=by
   unfold dJ;simp only [hw,bD,bsm];rw [ae (by simpa using hs)]
  rw [this];simp only [bsm,ae hs,tD];rfl
 ·obtain ⟨⟨l,v,t⟩,e1,e2,e3⟩:=Ca r (by omega) (by omega);have e2':(l==0)=false:=by simpa using e2
  rw [e1];simp only [bsm,e2',ak,ba,af hs];rw [qg (b:=t==0) (p:=(r-44032) % 28=0) (by simpa using e3)];simp only [tD]
theorem yb (l:List (Int×Int)) (hl:l.length<=1000000) (r:Int) (h:r32 r):dX l r=some (wZ l r):=by
 have hw:=h.w;unfold dX;simp only [hw];have key:cL (σ:=Int) (τ:=Bool ⊕ Unit) (((l.length:Int)-0).toNat+1) (fun s_5=>
   if (decide (s_5<(l.length:Int)))=true then
   (idx l s_5).bind fun x_15=>
   (bT (decide (r>=x_15.1)) ((idx l s_5).bind fun x_25=>
   some (decide (r<=x_25.2)))).bind fun d_19=>
   if d_19=true then
   some (.inr (.inl true))
   else
   some (.inl ((w64 (s_5+1))))
   else
   some (.inr (.inr ()))) (0)=some (if wZ l r=true then .inl true else .inr ()):=by
  refine pO (fun s=>∃k:Nat,s=(k:Int)/\k<=l.length/\(l.take k).any (onn (fun x=>x.1) (fun x=>x.2) r)=false) (fun s=>((l.length:Int)-s).toNat) ?_ ⟨0,rfl,cE _,by simp⟩ (by omega);rintro s ⟨k,rfl,hk,hno⟩;rcases aQ k l.length with hlt|hge
  ·have e1:(l.take (k+1)).any (onn (fun x=>x.1) (fun x=>x.2) r)=((l.take k).any (onn (fun x=>x.1) (fun x=>x.2) r) || onn (fun x=>x.1) (fun x=>x.2) r l[k]):=by
    rw [ax hlt,List.any_append];simp
   simp only [dlt hlt,bz,bp hlt,bsm,bi];have e2:(decide (r>=l[k].1) && decide (r<=l[k].2))=onn (fun x:Int×Int=>x.1) (fun x=>x.2) r l[k]:=rfl;rw [e2]
   cases hb:onn (fun x:Int×Int=>x.1) (fun x=>x.2) r l[k] with
   | true=>
    right
    have:wZ l r=true:=by
     unfold wZ;rw [A9];exact ⟨_,aF hlt,hb⟩
    rw [ae this];rfl
   | false=>
    left
    rw [dL hlt (by omega)];exact ⟨_,rfl,⟨k+1,rfl,hlt,by rw [e1,hno,hb]; rfl⟩,by omega⟩
  ·obtain rfl:k=l.length:=by omega
   right
   rw [mB] at hno;simp only [dnl,ak,ba];rw [show wZ l r=false from hno];rfl
 rw [key]
 cases wZ l r <;> rfl
theorem Iw:(match iY,iX,iW,iV,iU,iT,iS,iR with
 | some a,some b,some c,some d,some e,some f,some g,some h=>[a,b,c,d,e,f,g,h]== [ofv gT 1,ofv gT 2,ofv gT 3,ofv gT 4,ofv gT 5,ofv gT 6,ofv gT 7,ofv gT 8]|_,_,_,_,_,_,_,_=>false)=true:=by kernel_rfl
theorem IG:(match iQ,iP,iO with
 | some a,some b,some c=>[a,b,c]== [ofv cT 1,ofv cT 2,ofv cT 3]|_,_,_=>false)=true:=by kernel_rfl
theorem IA:(match iN,iM,iL with
 | some a,some b,some c=>[a,b,c]== [ofv eT 1,ofv eT 2,ofv eT 3]|_,_,_=>false)=true:=by kernel_rfl
theorem Ik:(jk==some pT)=true:=by kernel_rfl
theorem yf (T:List (Int×Int×Int)) (v:Int):(ofv T v).length<=T.length:=by
 unfold ofv;rw [dq];exact vC _ _
theorem Ie (r:Int) (h:r32 r):iD r=some ((lk gT r).getD (hcl r)):=by
 have hl:=Iw;unfold iD;split at hl
 ·rename_i a b c d e f g hh ea eb ec ed ee ef eg eh
  rw [ea,eb,ec,ed,ee,ef,eg,eh];simp only [bsm];have hl2:=eq_of_beq hl;rw [hl2];refine uF (n:=8) (by decide) (v:=lk gT r) (fun k hk=>?_) (by rfl) (fun x hx=>?_) rfl ?_
  ·have hi:idx ([ofv gT 1,ofv gT 2,ofv gT 3,ofv gT 4,ofv gT 5,ofv gT 6,ofv gT 7,ofv gT 8]:List (List (Int×Int))) (k:Int)=some (ofv gT ((k:Int)+1)):=by
    rw [tQ]
    match k,hk with
    | 0,_=>rfl
    | 1,_=>rfl
    | 2,_=>rfl
    | 3,_=>rfl
    | 4,_=>rfl
    | 5,_=>rfl
    | 6,_=>rfl
    | 7,_=>rfl
   simp only [hi,bsm];rw [ae (by simp; omega),yb _ (dt (yf _ _) Hf) r h,yj He,aG (by omega)];simp only [bsm];rw [qg (p:=lk gT r=some ((k:Int)+1)) (by simp)];rfl
  ·have:=DP (p:=fun v=>decide (1<=v) && decide (v<=8)) I7 hx;simpa using this
  ·cases lk gT r with
   | none=>show ((eE r).bind fun o=>some o)=_; rw [Cc r h]; rfl
   | some x=>rfl
 ·cases hl
theorem Ib (r:Int) (h:r32 r):iB r=some ((lk cT r).getD 0):=by
 have hl:=IG;unfold iB;split at hl
 ·rename_i a b c ea eb ec
  rw [ea,eb,ec];simp only [bsm];have hl2:=eq_of_beq hl;rw [hl2];refine uF (n:=3) (by decide) (v:=lk cT r) (fun k hk=>?_) (by rfl) (fun x hx=>?_) rfl ?_
  ·have hi:idx ([ofv cT 1,ofv cT 2,ofv cT 3]:List (List (Int×Int))) (k:Int)=some (ofv cT ((k:Int)+1)):=by
    rw [tQ]
    match k,hk with
    | 0,_=>rfl
    | 1,_=>rfl
    | 2,_=>rfl
   simp only [hi,bsm];rw [ae (by simp; omega),yb _ (dt (yf _ _) Ht) r h,yj Hs,aG (by omega)];simp only [bsm];rw [qg (p:=lk cT r=some ((k:Int)+1)) (by simp)];rfl
  ·have:=DP (p:=fun v=>decide (1<=v) && decide (v<=3)) Jc hx;simpa using this
  ·cases lk cT r <;> rfl
 ·cases hl
theorem Ia (r:Int) (h:r32 r):iA r=some ((lk eT r).getD 0):=by
 have hl:=IA;unfold iA;split at hl
 ·rename_i a b c ea eb ec
  rw [ea,eb,ec];simp only [bsm];have hl2:=eq_of_beq hl;rw [hl2];refine uF (n:=3) (by decide) (v:=lk eT r) (fun k hk=>?_) (by rfl) (fun x hx=>?_) rfl ?_
  ·have hi:idx ([ofv eT 1,ofv eT 2,ofv eT 3]:List (List (Int×Int))) (k:Int)=some (ofv eT ((k:Int)+1)):=by
    rw [tQ]
    match k,hk with
    | 0,_=>rfl
    | 1,_=>rfl
    | 2,_=>rfl
   simp only [hi,bsm];rw [ae (by simp; omega),yb _ (dt (yf _ _) Hl) r h,yj Hk,aG (by omega)];simp only [bsm];rw [qg (p:=lk eT r=some ((k:Int)+1)) (by simp)];rfl
  ·have:=DP (p:=fun v=>decide (1<=v) && decide (v<=3)) Ja hx;simpa using this
  ·cases lk eT r <;> rfl
 ·cases hl
def pic (r:Int):Bool:=(fnd (fun x:Int×Int=>x.1) (fun x=>x.2) pT r).isSome
theorem Fx (r:Int):wZ pT r=pic r:=by
 unfold wZ pic fnd;rw [cu,List.find?_isSome,A9]
theorem Ic (r:Int) (h:r32 r):iC r=some (pic r):=by
 unfold iC;rw [eq_of_beq Ik];simp only [bsm];rw [yb _ GQ r h,Fx];rfl
def pr (r:Int):aw:=⟨(lk gT r).getD (hcl r),pic r,(lk cT r).getD 0,(lk eT r).getD 0⟩
theorem H1 (r:Int) (h:r32 r):dW r=some (pr r):=by
 unfold dW;rw [Ie r h,Ic r h,Ib r h,Ia r h];rfl
theorem qY {a b n:Nat}(h:a<b) (hb:b<=n):(a+b) / 2<n:=by omega
theorem Hb (r:Int) (h:r32 r):rf r=some ((lk gT r).getD (hcl r)):=by
 have hw:=h.w;have hlen:=Hf;unfold rf;rw [Ix];simp only [bsm];obtain ⟨i,e1,e2,e3,e4⟩:=rQ He Hf r (step:=fun s_7=>
  if (decide (s_7.1<s_7.2))=true then
  (nS (w64 ((IntKind.u64.wrap (w64 (s_7.1+s_7.2))).fdiv (2 ^ 1))) gT r).bind fun x_22=>
  if (!x_22)=true then
  some (.inl ((w64 ((w64 ((IntKind.u64.wrap (w64 (s_7.1+s_7.2))).fdiv (2 ^ 1)))+1)),s_7.2))
  else
  some (.inl (s_7.1,(w64 ((IntKind.u64.wrap (w64 (s_7.1+s_7.2))).fdiv (2 ^ 1)))))
  else
  some (.inr (s_7.1))) (fun a b hab hb=>by
   simp only;rw [ae (by simp; omega),FA (by omega)];unfold nS;rw [bp (qY hab hb),hw];simp only [bsm];by_cases hr:r<=(gT[(a+b) / 2]'(qY hab hb)).2.1
   ·rw [af (by simpa using hr),ae hr]
   ·rw [ae (by simpa using hr),af hr,aG (by omega)];rfl) (fun a=>by simp only; rw [af (by simp)])
 unfold gI;rw [e1];simp only [bsm,hw];have hf:=yp He e3 e4;unfold lk;rw [hf];by_cases hi:i<gT.length
 ·rw [uK hi,bp hi];simp only [bsm,bi];by_cases hlo:gT[i].1<=r
  ·rw [ae (by simp; exact ⟨hi,hlo⟩),ae hlo];rfl
  ·rw [af (by simp; omega),af hlo,tS r h];rfl
 ·rw [wV hi,show decide ((i:Int)<(gT.length:Int))=false by simp; omega,iF];simp only [bsm];rw [af (by decide),tS r h];rfl
theorem FN (r:Int) (h:r32 r):pm r=some ((lk cT r).getD 0):=by
 have hw:=h.w;have hlen:=Ht;unfold pm;rw [IH];simp only [bsm];obtain ⟨i,e1,e2,e3,e4⟩:=rQ Hs Ht r (step:=fun s_7=>
  if (decide (s_7.1<s_7.2))=true then
  (np (w64 ((IntKind.u64.wrap (w64 (s_7.1+s_7.2))).fdiv (2 ^ 1))) cT r).bind fun x_22=>
  if (!x_22)=true then
  some (.inl ((w64 ((w64 ((IntKind.u64.wrap (w64 (s_7.1+s_7.2))).fdiv (2 ^ 1)))+1)),s_7.2))
  else
  some (.inl (s_7.1,(w64 ((IntKind.u64.wrap (w64 (s_7.1+s_7.2))).fdiv (2 ^ 1)))))
  else
  some (.inr (s_7.1))) (fun a b hab hb=>by
   simp only;rw [ae (by simp; omega),FA (by omega)];unfold np;rw [bp (qY hab hb),hw];simp only [bsm];by_cases hr:r<=(cT[(a+b) / 2]'(qY hab hb)).2.1
   ·rw [af (by simpa using hr),ae hr]
   ·rw [ae (by simpa using hr),af hr,aG (by omega)];rfl) (fun a=>by simp only; rw [af (by simp)])
 unfold gn;rw [e1];simp only [bsm,hw];have hf:=yp Hs e3 e4;unfold lk;rw [hf];by_cases hi:i<cT.length
 ·rw [uK hi,bp hi];simp only [bsm,bD];by_cases hlo:cT[i].1<=r
  ·rw [af (by simp; omega),ae hlo];rfl
  ·rw [ae (by simp; omega),af hlo];rfl
 ·rw [wV hi,show ((i:Int)==(cT.length:Int))=true by simp; omega,zm];simp only [bsm];rw [ae trivial];rfl
theorem FG (r:Int) (h:r32 r):ph r=some ((lk eT r).getD 0):=by
 have hw:=h.w;have hlen:=Hl;unfold ph;rw [IB];simp only [bsm];obtain ⟨i,e1,e2,e3,e4⟩:=rQ Hk Hl r (step:=fun s_7=>
  if (decide (s_7.1<s_7.2))=true then
  (nk (w64 ((IntKind.u64.wrap (w64 (s_7.1+s_7.2))).fdiv (2 ^ 1))) eT r).bind fun x_22=>
  if (!x_22)=true then
  some (.inl ((w64 ((w64 ((IntKind.u64.wrap (w64 (s_7.1+s_7.2))).fdiv (2 ^ 1)))+1)),s_7.2))
  else
  some (.inl (s_7.1,(w64 ((IntKind.u64.wrap (w64 (s_7.1+s_7.2))).fdiv (2 ^ 1)))))
  else
  some (.inr (s_7.1))) (fun a b hab hb=>by
   simp only;rw [ae (by simp; omega),FA (by omega)];unfold nk;rw [bp (qY hab hb),hw];simp only [bsm];by_cases hr:r<=(eT[(a+b) / 2]'(qY hab hb)).2.1
   ·rw [af (by simpa using hr),ae hr]
   ·rw [ae (by simpa using hr),af hr,aG (by omega)];rfl) (fun a=>by simp only; rw [af (by simp)])
 unfold gk;rw [e1];simp only [bsm,hw];have hf:=yp Hk e3 e4;unfold lk;rw [hf];by_cases hi:i<eT.length
 ·rw [uK hi,bp hi];simp only [bsm,bD];by_cases hlo:eT[i].1<=r
  ·rw [af (by simp; omega),ae hlo];rfl
  ·rw [ae (by simp; omega),af hlo];rfl
 ·rw [wV hi,show ((i:Int)==(eT.length:Int))=true by simp; omega,zm];simp only [bsm];rw [ae trivial];rfl
theorem E9 (r:Int) (h:r32 r):pa r=some (pic r):=by
 have hlen:=GQ;unfold pa;rw [Il];simp only [bsm];obtain ⟨i,e1,e2,e3,e4⟩:=rQ Ij GQ r (step:=fun s_7=>
  if (decide (s_7.1<s_7.2))=true then
  (nh (w64 ((IntKind.u64.wrap (w64 (s_7.1+s_7.2))).fdiv (2 ^ 1))) pT r).bind fun x_22=>
  if (!x_22)=true then
  some (.inl ((w64 ((w64 ((IntKind.u64.wrap (w64 (s_7.1+s_7.2))).fdiv (2 ^ 1)))+1)),s_7.2))
  else
  some (.inl (s_7.1,(w64 ((IntKind.u64.wrap (w64 (s_7.1+s_7.2))).fdiv (2 ^ 1)))))
  else
  some (.inr (s_7.1))) (fun a b hab hb=>by
   simp only;rw [ae (by simp; omega),FA (by omega)];unfold nh;rw [bp (qY hab hb)];simp only [bsm];by_cases hr:r<=(pT[(a+b) / 2]'(qY hab hb)).2
   ·rw [af (by simpa using hr),ae hr]
   ·rw [ae (by simpa using hr),af hr,aG (by omega)];rfl) (fun a=>by simp only; rw [af (by simp)])
 unfold gj;rw [e1];simp only [bsm];have hf:=yp Ij e3 e4;unfold pic;rw [hf];by_cases hi:i<pT.length
 ·rw [uK hi,bp hi];simp only [bsm,bi];by_cases hlo:pT[i].1<=r
  ·rw [ae hlo];simp [hi,hlo]
  ·rw [af hlo];simp [hlo]
 ·rw [wV hi,show decide ((i:Int)<(pT.length:Int))=false by simp; omega,iF];rfl
theorem Gs (r:Int) (h:r32 r):qZ r=some (pr r):=by
 unfold qZ;rw [Hb r h,E9 r h,FN r h,FG r h];rfl
end Go.Proofs.YtclmdpamofdoiaaGreatDoor
namespace Go.Proofs.YtclmdpamofdoiaaGreatDoor
open Go Go.Lt
theorem Ei {a b:ab}(h1:a.Kind=b.Kind) (h2:a.Text=b.Text):a=b:=by
 cases a; cases b; simp_all
def bl:ab:=⟨0,[]⟩
def vld (r:Int):Bool:=decide (0<=r) && decide (r<=1114111) && (decide (r<55296) || decide (r>57343))
theorem uz (r:Int):cZ r=some (vld r):=by
 simp only [cZ,bi,bD,bsm,vld,AK]
theorem uu (r:Int):fu r=some (vld r):=by
 simp only [fu,bi,bD,bsm,vld,aV];rw [cu];simp;omega
def rgt (c:ab):Bool:=
 if c.Kind=0\/c.Kind=3 then c.Text.isEmpty else (decide (c.Kind=1) || decide (c.Kind=2)) && decide (1<=c.Text.length) && decide (c.Text.length<=16) && c.Text.all vld
theorem sP {α:Type}(p:α->Bool) (l:List α) (i:Nat) (h:i<l.length):(l.take (i+1)).all p=((l.take i).all p && p l[i]):=by
 rw [ax h,List.all_append];simp
theorem uj {α:Type}{p:α->Bool}{l:List α}{i:Nat}(h:i<l.length) (hp:p l[i]=false):l.all p=false:=by
 rw [List.all_eq_false];exact ⟨_,aF h,by simp [hp]⟩
theorem ve {α:Type}(l:List α):((l.length:Int)==0)=l.isEmpty:=by
 cases l <;> simp <;> omega
theorem Cb (c:ab):iK c=some (rgt c):=by
 unfold iK rgt;simp only [bD,bi,bsm];by_cases h1:c.Kind=0\/c.Kind=3
 ·have e:(c.Kind==0 || c.Kind==3)=true:=by rcases h1 with h|h <;> simp [h]
  rw [ae e,ae h1,ve]
 ·have e:(c.Kind==0 || c.Kind==3)=false:=by simp; omega
  rw [af (by rw [e]; simp),af h1];by_cases h2:((c.Kind=1\/c.Kind=2)/\1<=c.Text.length/\c.Text.length<=16)
  ·have e2:(((c.Kind != 1 && c.Kind != 2) || decide ((c.Text.length:Int)<1)) || decide ((c.Text.length:Int)>16))=false:=by
    simp; omega
   rw [af (by rw [e2]; simp)];obtain ⟨t,h3,h4⟩:=nQ (τ:=Bool ⊕ Unit) (n:=c.Text.length) (by omega) (fun t=>match t with|.inl b=>b=c.Text.all vld|.inr _=>c.Text.all vld=true) (fun i=>(c.Text.take i).all vld=true) (by simp)
    (step:=fun s_44=>
     if (decide (s_44<(c.Text.length:Int)))=true then
     (idx c.Text s_44).bind fun x_54=>
     (cZ x_54).bind fun x_56=>
     if (!x_56)=true then
     some (.inr (.inl false))
     else
     some (.inl ((w64 (s_44+1))))
     else
     some (.inr (.inr ())))
    (fun i hi hI=>by
     have e3:w64 ((i:Int)+1)=((i+1:Nat):Int):=by rw [aG (by omega)]; simp
     simp only [mC,hi,kb,bz,bp hi,bsm,uz,e3]
     cases hv:vld c.Text[i] with
     | true=>exact .inl ⟨by simp,by rw [sP _ _ _ hi,hI,hv]; rfl⟩
     | false=>exact .inr ⟨.inl false,by simp,(uj hi hv).symm⟩)
    (fun hI=>⟨.inr (),by simp,by simpa using hI⟩)
   rw [h3];simp only [bsm];have e4:(decide (c.Kind=1) || decide (c.Kind=2))=true:=by simp; exact h2.1
   rw [e4,wA h2.2.1,wA h2.2.2]
   cases t with
   | inl b=>simp only at h4; simp [h4]
   | inr u=>simp only at h4; simp [h4]
  ·have e2:(((c.Kind != 1 && c.Kind != 2) || decide ((c.Text.length:Int)<1)) || decide ((c.Text.length:Int)>16))=true:=by
    simp; omega
   rw [ae e2]
   congr 1
   symm
   simp only [HO,wU,kJ];omega
theorem zO (r:Int):jI r=some (!vld r):=by simp [jI,uu]
theorem xb (l:List Int) (hl:l.length<=9223372036854775807):bY l=some (!l.all vld):=by
 unfold bY cM;obtain ⟨t,h3,h4⟩:=nQ (τ:=Int ⊕ Unit) (n:=l.length) (by omega) (fun t=>match t with|.inl i=>0<=i/\l.all vld=false|.inr _=>l.all vld=true) (fun i=>(l.take i).all vld=true) (by simp)
  (step:=fun s_7=>
   if (decide (s_7<(l.length:Int)))=true then
   (idx l s_7).bind fun x_16=>
   (jI x_16).bind fun x_18=>
   if x_18=true then
   some (.inr (.inl s_7))
   else
   some (.inl ((w64 (s_7+1))))
   else
   some (.inr (.inr ())))
  (fun i hi hI=>by
   have e3:w64 ((i:Int)+1)=((i+1:Nat):Int):=by rw [aG (by omega)]; simp
   simp only [mC,hi,kb,bz,bp hi,bsm,zO,e3]
   cases hv:vld l[i] with
   | true=>exact .inl ⟨by simp,by rw [sP _ _ _ hi,hI,hv]; rfl⟩
   | false=>exact .inr ⟨.inl i,by simp,by omega,uj hi hv⟩)
  (fun hI=>⟨.inr (),by simp,by simpa using hI⟩)
 rw [h3];simp only [bsm]
 cases t with
 | inl b=>simp only at h4; simp [h4.1,h4.2]
 | inr u=>simp only at h4; simp [h4]
theorem AV (c:ab):kY c=some (rgt c):=by
 unfold kY rgt;by_cases h1:c.Kind=0\/c.Kind=3
 ·rw [ae h1];rcases h1 with h|h <;> simp [h,ve]
 ·have n0:(c.Kind==0)=false:=by simp; omega
  have n3:(c.Kind==3)=false:=by simp; omega
  rw [af h1];simp only [n0,n3,ak,ba,bsm];by_cases h2:c.Kind=1\/c.Kind=2
  ·have e:(if (c.Kind==1)=true then some (c.Kind==1) else some (c.Kind==2):Option Bool)=some true:=by rcases h2 with h|h <;> simp [h]
   have e2:(decide (c.Kind=1) || decide (c.Kind=2))=true:=by simp; exact h2
   rw [e,e2];simp only [bsm,bz,bi,dH];by_cases h3:1<=c.Text.length/\c.Text.length<=16
   ·rw [xb _ (by omega)];have e4:(decide ((c.Text.length:Int)>0) && decide ((c.Text.length:Int)<=16))=true:=by simp; omega
    have e5:(decide (1<=c.Text.length) && decide (c.Text.length<=16))=true:=by simp; exact h3
    rw [e4,e5];simp [ip]
   ·have e4:(decide ((c.Text.length:Int)>0) && decide ((c.Text.length:Int)<=16))=false:=by simp; omega
    have e5:(decide (1<=c.Text.length) && decide (c.Text.length<=16))=false:=by simp; omega
    rw [e4,e5];simp [iF]
  ·have n1:(c.Kind==1)=false:=by simp; omega
   have n2:(c.Kind==2)=false:=by simp; omega
   have e2:(decide (c.Kind=1) || decide (c.Kind=2))=false:=by simp; omega
   rw [e2];simp [n1,n2]
def kd (l:List ab) (i:Nat):Int:=match l[i]? with|some c=>c.Kind|none=>0
theorem lc {l:List ab}{i:Nat}(h:i<l.length):kd l i=l[i].Kind:=by simp [kd,ag h]
theorem mS {l:List ab}{i:Nat}(h:l.length<=i):kd l i=0:=by simp [kd,aS h]
def Snd (l:List ab):Prop:=∀i (h:i<l.length),rgt l[i]=true/\(l[i].Kind=2->kd l (i+1)=3)/\(l[i].Kind=3->0<i/\kd l (i-1)=2)
theorem Dy (l:List ab) (i:Int):fe l i=some (if 0<=i then kd l i.toNat else 0):=by
 unfold fe;simp only [bD,bsm];by_cases h0:i<0
 ·rw [ae (by simp [h0]),af (by omega)]
 ·by_cases h1:i<l.length
  ·obtain ⟨k,rfl⟩:=Int.eq_ofNat_of_zero_le (show 0<=i by omega);have hk:k<l.length:=by omega
   rw [af (by simp; omega),ae (by omega),bp hk];simp [lc hk]
  ·rw [ae (by simp; omega),ae (by omega),mS (by omega)]
theorem HK (l:List ab) (hl:l.length<=9223372036854775807):∃b,mF l=some b/\(b=true↔Snd l):=by
 unfold mF;obtain ⟨t,h3,h4⟩:=nQ (τ:=Bool ⊕ Unit) (n:=l.length) (by omega) (fun t=>match t with|.inl b=>b=false/\¬Snd l|.inr _=>Snd l)
  (fun i=>∀j (h:j<l.length),j<i->rgt l[j]=true/\(l[j].Kind=2->kd l (j+1)=3)/\(l[j].Kind=3->0<j/\kd l (j-1)=2)) (fun j _ h=>by omega)
  (step:=fun s_5=>
   if (decide (s_5<(l.length:Int)))=true then
   (idx l s_5).bind fun x_13=>
   (iK x_13).bind fun x_15=>
   (orE (!x_15) ((idx l s_5).bind fun x_21=>
   (bT (x_21.Kind==2) ((fe l (w64 (s_5+1))).bind fun x_30=>
   some (x_30 != 3))).bind fun d_25=>
   some d_25)).bind fun d_17=>
   (orE d_17 ((idx l s_5).bind fun x_36=>
   (bT (x_36.Kind==3) ((fe l (w64 (s_5-1))).bind fun x_45=>
   some (x_45 != 2))).bind fun d_40=>
   some d_40)).bind fun d_32=>
   if d_32=true then
   some (.inr (.inl false))
   else
   some (.inl ((w64 (s_5+1))))
   else
   some (.inr (.inr ())))
  (fun i hi hI=>by
   have e3:w64 ((i:Int)+1)=((i+1:Nat):Int):=by rw [aG (by omega)]; simp
   have e4:w64 ((i:Int)-1)=(i:Int)-1:=aG (by omega);simp only [mC,hi,kb,bz,bp hi,bsm,Cb,Dy,e3,e4,bi,bD];by_cases hk:rgt l[i]=true/\(l[i].Kind=2->kd l (i+1)=3)/\(l[i].Kind=3->0<i/\kd l (i-1)=2)
   ·refine .inl ⟨?_,fun j h hj=>?_⟩
    ·rw [af];obtain ⟨h1,h2,h5⟩:=hk;simp only [h1,dk,jv,aD,av,aT,nz,xB,GV,zp,Decidable.not_not];refine ⟨fun h=>?_,fun h=>?_⟩
     ·rw [ae (by omega)]; simpa using h2 h
     ·obtain ⟨h6,h7⟩:=h5 h;rw [ae (by omega),show ((i:Int)-1).toNat=i-1 by omega]; exact h7
    ·by_cases hji:j=i
     ·subst hji; exact hk
     ·exact hI j h (by omega)
   ·refine .inr ⟨.inl false,?_,rfl,fun hs=>hk (hs i hi)⟩;rw [ae]
    cases h1:rgt l[i] with
    | false=>simp
    | true=>
     simp only [h1,vP] at hk;have hk:(l[i].Kind=2/\¬kd l (i+1)=3)\/(l[i].Kind=3/\¬(0<i/\kd l (i-1)=2)):=by
      by_cases hA:l[i].Kind=2->kd l (i+1)=3
      ·exact .inr (Classical.not_imp.1 fun hB=>hk ⟨hA,hB⟩)
      ·exact .inl (Classical.not_imp.1 hA)
     simp only [dk,jv,aD,av,aT,nz,xB];rcases hk with ⟨h,h2⟩|⟨h,h2⟩
     ·refine .inl ⟨h,?_⟩;rw [ae (by omega)]; simpa using h2
     ·refine .inr ⟨h,?_⟩;by_cases h0:i=0
      ·subst h0; simp
      ·rw [ae (by omega),show ((i:Int)-1).toNat=i-1 by omega];exact fun h3=>h2 ⟨by omega,h3⟩)
  (fun hI=>⟨.inr (),by simp,fun j h=>hI j h h⟩)
 rw [h3];simp only [bsm]
 cases t with
 | inl b=>exact ⟨b,rfl,by simp only at h4; rw [h4.1]; simp [h4.2]⟩
 | inr u=>exact ⟨true,rfl,by simpa using h4⟩
theorem wB (l:List ab) (hl:l.length<=9223372036854775807):∃b,kX l=some b/\(b=true↔Snd l):=by
 unfold kX
 let ld:Nat->Bool:=fun i=>match i with|0=>false|k+1=>decide (kd l k=2)
 have key:∀i (h:i<l.length),((rgt l[i]=true/\(ld i=decide (l[i].Kind=3)))↔rgt l[i]=true/\(l[i].Kind=3->0<i/\kd l (i-1)=2)/\(0<i->kd l (i-1)=2->l[i].Kind=3)):=fun i h=>by
  cases i with
  | zero=>simp [ld]
  | succ k=>simp only [ld,rN,decide_eq_decide]; constructor <;> (rintro ⟨a,b⟩; exact ⟨a,by omega⟩)
 have snd:Snd l↔(∀i (h:i<l.length),rgt l[i]=true/\ld i=decide (l[i].Kind=3))/\ld l.length=false:=by
  constructor
  ·intro hs;refine ⟨fun i h=>(key i h).2 ⟨(hs i h).1,(hs i h).2.2,fun h0 h2=>?_⟩,?_⟩
   ·have:=(hs (i-1) (by omega)).2.1 (by rw [<-lc]; exact h2);rw [show i-1+1=i by omega,lc h] at this;exact this
   ·cases hn:l.length with
    | zero=>rfl
    | succ k=>
     simp only [ld,kJ];intro h2;have:=(hs k (by omega)).2.1 (by rw [<-lc]; exact h2);rw [mS (by omega)] at this;cases this
  ·rintro ⟨h1,h2⟩ i h;have hk:=(key i h).1 (h1 i h);refine ⟨hk.1,fun h3=>?_,hk.2.1⟩;by_cases hn:i+1<l.length
   ·have:=((key (i+1) hn).1 (h1 (i+1) hn)).2.2 (by omega) (by rw [rN,lc h]; exact h3);rw [lc hn]; exact this
   ·exfalso
    have e:l.length=i+1:=by omega
    rw [e] at h2;simp only [ld,kJ] at h2;rw [lc h] at h2;exact h2 h3
 obtain ⟨t,h3,h4⟩:=lX (τ:=Bool ⊕ Bool) (fun s:Bool×Int=>∃i:Nat,s=(ld i,(i:Int))/\i<=l.length/\∀j (h:j<l.length),j<i->rgt l[j]=true/\ld j=decide (l[j].Kind=3)) (fun s=>l.length-s.2.toNat)
  (fun t=>match t with|.inl b=>b=false/\¬Snd l|.inr b=>(b=false↔Snd l))
  (step:=fun s_9=>
   if (decide (s_9.2<(l.length:Int)))=true then
   (idx l s_9.2).bind fun x_12=>
   (kY x_12).bind fun x_18=>
   (orE (!x_18) (some (!(s_9.1==(x_12.Kind==3))))).bind fun d_20=>
   if d_20=true then
   some (.inr (.inl false))
   else
   some (.inl (x_12.Kind==2,(w64 (s_9.2+1))))
   else
   some (.inr (.inr (s_9.1))))
  (by
   rintro s ⟨i,rfl,hi,hI⟩;rcases aQ i l.length with hlt|hge
   ·have e3:w64 ((i:Int)+1)=((i+1:Nat):Int):=by rw [aG (by omega)]; simp
    simp only [mC,hlt,kb,bz,bp hlt,bsm,AV,bD,e3];by_cases hk:rgt l[i]=true/\ld i=decide (l[i].Kind=3)
    ·refine .inl ⟨_,?_,⟨i+1,rfl,hlt,fun j h hj=>?_⟩,?_⟩
     ·rw [af]
      ·simp only [ld,lc hlt]; rfl
      ·rw [hk.1,hk.2]; simp; rfl
     ·by_cases hji:j=i
      ·subst hji; exact hk
      ·exact hI j h (by omega)
     ·simp; omega
    ·refine .inr ⟨.inl false,?_,rfl,fun hs=>hk ((snd.1 hs).1 i hlt)⟩;rw [ae]
     cases h1:rgt l[i] with
     | false=>simp
     | true=>
      simp only [h1,vP] at hk;simp only [dk,jv,dI,dA,xB];exact hk
   ·obtain rfl:i=l.length:=by omega
    refine .inr ⟨.inr (ld l.length),by simp,?_⟩;simp only;rw [snd];exact ⟨fun h=>⟨fun j hj=>hI j hj hj,h⟩,fun h=>h.2⟩) (((l.length:Int)-0).toNat+1) (false,0) ⟨0,rfl,cE _,fun j _ h=>by omega⟩ (by simp)
 rw [h3];simp only [bsm]
 cases t with
 | inl b=>exact ⟨b,rfl,by simp only at h4; rw [h4.1]; simp [h4.2]⟩
 | inr b=>exact ⟨!b,rfl,by simp only at h4; rw [<-h4]; cases b <;> simp⟩
theorem B1 (a:List Int) (ha:a.length<=9223372036854775807) (b:List Int):∃t,fi a b=some t/\(t=true↔a=b):=by
 unfold fi;by_cases hl:a.length=b.length
 ·rw [af (by simp [hl])];obtain ⟨t,h3,h4⟩:=nQ (τ:=Bool ⊕ Unit) (n:=a.length) (by omega) (fun t=>match t with|.inl b'=>b'=false/\a≠b|.inr _=>a=b) (fun i=>∀j,j<i->a[j]? = b[j]?) (fun j h=>by omega)
   (step:=fun s_13=>
    if (decide (s_13<(a.length:Int)))=true then
    (idx a s_13).bind fun x_21=>
    (idx b s_13).bind fun x_25=>
    if (x_21 != x_25)=true then
    some (.inr (.inl false))
    else
    some (.inl ((w64 (s_13+1))))
    else
    some (.inr (.inr ())))
   (fun i hi hI=>by
    have e3:w64 ((i:Int)+1)=((i+1:Nat):Int):=by rw [aG (by omega)]; simp
    simp only [mC,hi,kb,bz,bp hi,bp (show i<b.length by omega),bsm,e3];by_cases hk:a[i]=b[i]
    ·refine .inl ⟨by rw [af (by simp [hk])],fun j hj=>?_⟩;by_cases hji:j=i
     ·subst hji; rw [ag hi,ag (show j<b.length by omega),hk]
     ·exact hI j (by omega)
    ·exact .inr ⟨.inl false,by rw [ae (by simpa using hk)],rfl,fun e=>hk (by subst e; rfl)⟩)
   (fun hI=>⟨.inr (),by simp,by
    apply bZ;intro j;rcases aQ j a.length with h|h
    ·exact hI j h
    ·rw [aS h,aS (by omega)]⟩)
  rw [h3];simp only [bsm]
  cases t with
  | inl b'=>exact ⟨b',rfl,by simp only at h4; rw [h4.1]; simp [h4.2]⟩
  | inr u=>exact ⟨true,rfl,by simpa using h4⟩
 ·rw [ae (by simp; omega)];exact ⟨false,rfl,by simp; intro e; subst e; exact hl rfl⟩
def Sht (l:List ab):Prop:=∀i (h:i<l.length),l[i].Text.length<=1000000
theorem Snd.sht {l:List ab}(h:Snd l):Sht l:=fun i hi=>by
 have:=(h i hi).1;unfold rgt at this;split at this
 ·have e:l[i].Text= []:=by simpa using this
  rw [e]; simp
 ·simp at this; omega
theorem Ap (a:List ab) (ha:a.length<=9223372036854775807) (hs:Sht a) (b:List ab):∃t,dV a b=some t/\(t=true↔a=b):=by
 unfold dV;by_cases hl:a.length=b.length
 ·rw [af (by simp [hl])];obtain ⟨t,h3,h4⟩:=nQ (τ:=Bool ⊕ Unit) (n:=a.length) (by omega) (fun t=>match t with|.inl b'=>b'=false/\a≠b|.inr _=>a=b) (fun i=>∀j,j<i->a[j]? = b[j]?) (fun j h=>by omega)
   (step:=fun s_13=>
    if (decide (s_13<(a.length:Int)))=true then
    (idx a s_13).bind fun x_21=>
    (idx b s_13).bind fun x_26=>
    (orE (x_21.Kind != x_26.Kind) ((idx a s_13).bind fun x_34=>
    (idx b s_13).bind fun x_39=>
    (fi x_34.Text x_39.Text).bind fun x_42=>
    some (!x_42))).bind fun d_30=>
    if d_30=true then
    some (.inr (.inl false))
    else
    some (.inl ((w64 (s_13+1))))
    else
    some (.inr (.inr ())))
   (fun i hi hI=>by
    have e3:w64 ((i:Int)+1)=((i+1:Nat):Int):=by rw [aG (by omega)]; simp
    obtain ⟨t,ht,ht2⟩:=B1 a[i].Text (by have:=hs i hi; omega) b[i].Text;simp only [mC,hi,kb,bz,bp hi,bp (show i<b.length by omega),bsm,e3,ht,bD];by_cases hk:a[i]=b[i]
    ·refine .inl ⟨by rw [af (by rw [ht2.2 (by rw [hk])]; simp [hk])],fun j hj=>?_⟩;by_cases hji:j=i
     ·subst hji; rw [ag hi,ag (show j<b.length by omega),hk]
     ·exact hI j (by omega)
    ·refine .inr ⟨.inl false,?_,rfl,fun e=>hk (by subst e; rfl)⟩;rw [ae];by_cases hkk:a[i].Kind=b[i].Kind
     ·have:t=false:=by
       cases t with
       | false=>rfl
       | true=>exact absurd (Ei hkk (ht2.1 rfl)) hk
      simp [this]
     ·simp [hkk])
   (fun hI=>⟨.inr (),by simp,by
    apply bZ;intro j;rcases aQ j a.length with h|h
    ·exact hI j h
    ·rw [aS h,aS (by omega)]⟩)
  rw [h3];simp only [bsm]
  cases t with
  | inl b'=>exact ⟨b',rfl,by simp only at h4; rw [h4.1]; simp [h4.2]⟩
  | inr u=>exact ⟨true,rfl,by simpa using h4⟩
 ·rw [ae (by simp; omega)];exact ⟨false,rfl,by simp; intro e; subst e; exact hl rfl⟩
theorem B2 {a:List ab}(ha:a.length<=9223372036854775807) (hs:Sht a):dV a a=some true:=by
 obtain ⟨t,h1,h2⟩:=Ap a ha hs a;rw [h1,h2.2 rfl]
def gi (r:Int):Int:=if vld r=true then r else 65533
def fx (t:List Int):List Int:=(t.take 16).map gi
def eu (wide:Int) (t:List Int):List ab:=
 if t= [] then (if wide>1 then [bl,bl] else [bl]) else if wide>1 then [⟨2,t⟩,⟨3,[]⟩] else [⟨1,t⟩]
theorem yO (r:Int):vld (gi r)=true:=by
 unfold gi;split
 ·assumption
 ·rfl
theorem Hg (t:List Int):∀x∈fx t,vld x=true:=fun x hx=>by
 obtain ⟨y,_,rfl⟩:=List.mem_map.1 hx;exact yO y
theorem Hi (t:List Int):(fx t).length<=16:=by simp [fx]; omega
theorem Bw (t:List Int):(fx t).length=min 16 t.length:=by simp [fx]
theorem Dt {k:Int}(hk:k=1\/k=2){t:List Int}(h1:1<=t.length) (h2:t.length<=16) (hv:∀x∈t,vld x=true):rgt ⟨k,t⟩=true:=by
 unfold rgt;rw [af (by simp; omega)];simp only [av,aD,an,um];exact ⟨⟨⟨hk,h1⟩,h2⟩,hv⟩
theorem BU (wide:Int){t:List Int}(hv:∀x∈t,vld x=true) (h2:t.length<=16):Snd (eu wide t):=by
 unfold eu;have hb:rgt bl=true:=rfl;have h3:rgt ⟨3,[]⟩=true:=rfl;by_cases ht:t= []
 ·rw [ae ht];split
  ·intro i hi
   match i,hi with
   | 0,_=>exact ⟨hb,fun h=>by simp [bl] at h,fun h=>by simp [bl] at h⟩
   | 1,_=>exact ⟨hb,fun h=>by simp [bl] at h,fun h=>by simp [bl] at h⟩
  ·intro i hi
   match i,hi with
   | 0,_=>exact ⟨hb,fun h=>by simp [bl] at h,fun h=>by simp [bl] at h⟩
 ·rw [af ht];have h1:1<=t.length:=by
   rcases rM t.length with h|h
   ·exact absurd (fj h) ht
   ·exact h
  split
  ·intro i hi
   match i,hi with
   | 0,_=>exact ⟨Dt (.inr rfl) h1 h2 hv,fun _=>rfl,fun h=>by simp at h⟩
   | 1,_=>exact ⟨h3,fun h=>by simp at h,fun _=>⟨by omega,rfl⟩⟩
  ·intro i hi
   match i,hi with
   | 0,_=>exact ⟨Dt (.inl rfl) h1 h2 hv,fun h=>by simp at h,fun h=>by simp at h⟩
theorem Dx (wide:Int) (t:List Int) (ht:t.length<=9223372036854775807):iy wide t=some (eu wide (fx t)):=by
 unfold iy;rw [pO (s:=(([]:List Int),(0:Int))) (t:=fx t) (fun st:List Int×Int=>∃i:Nat,st=((fx t).take i,(i:Int))/\i<=(fx t).length) (fun st=>(fx t).length-st.2.toNat) ?_ ⟨0,rfl,cE _⟩ (by simp [fx]; omega)]
 ·simp only [bsm,bi];unfold eu;by_cases h0:fx t= []
  ·rw [ae h0,h0];by_cases hw:wide>1
   ·simp [hw,bl]
   ·simp [hw,bl]
  ·have h1:(((fx t).length:Int)==0)=false:=by
    rw [dA];intro e;exact h0 (fj (by omega))
   rw [af h0];simp only [h1,mw,ak,ba];by_cases hw:wide>1
   ·simp [hw]
   ·simp [hw]
 ·rintro st ⟨i,rfl,hi⟩;have hl:=Bw t;rcases aQ i (fx t).length with hlt|hge
  ·refine .inl ⟨_,?_,⟨i+1,rfl,hlt⟩,by simp; omega⟩;have e3:w64 ((i:Int)+1)=((i+1:Nat):Int):=by rw [aG (by omega)]; simp
   have hit:i<t.length:=by omega
   have d1:(decide ((i:Int)<(t.length:Int)) && decide ((i:Int)<16))=true:=by simp; omega
   have hx:(fx t)[i]=gi t[i]:=by simp [fx]
   simp only [bi,bsm,d1,bz,bp hit,uz,e3];have happ:∀x,x=gi t[i]->app ((fx t).take i) [x]=some ((fx t).take (i+1)):=fun x hxx=>by
    rw [cU (by rw [ay]; simp; omega),ax hlt,hx,hxx]
   cases hv:vld t[i] with
   | true=>
    simp only [bz];rw [happ _ (by simp [gi,hv])];rfl
   | false=>
    simp only [ak,ba];rw [happ _ (by simp [gi,hv])];rfl
  ·obtain rfl:i=(fx t).length:=by omega
   have d1:(decide (((fx t).length:Int)<(t.length:Int)) && decide (((fx t).length:Int)<16))=false:=by simp; omega
   exact .inr (by simp only [bi,bsm,d1,ak,ba]; simp)
end Go.Proofs.YtclmdpamofdoiaaGreatDoor
namespace Go.Proofs.YtclmdpamofdoiaaGreatDoor
open Go Go.Lt
def Sto.sr (s:Sto) (k:Nat) (x:br):Sto:={ s with row_Row:=s.row_Row.set k x}
theorem cR {α:Type}{l:List α}{k:Nat}{x:α}(h:l[k]? = some x):k<l.length:=(List.getElem?_eq_some_iff.1 h).1
theorem vD {s:Sto}{k:Nat}{x:br}(h:k<s.row_Row.length):s.set_row_Row k x=some (s.sr k x):=by
 unfold Sto.set_row_Row;rw [ae h];rfl
theorem Gv (s:Sto) (k:Nat) (x:br):(s.sr k x).row_Row.length=s.row_Row.length:=by simp [Sto.sr]
theorem sV {s:Sto}{k:Nat}{x:br}(h:k<s.row_Row.length):(s.sr k x).row_Row[k]? = some x:=by simp [Sto.sr,h]
theorem yS {s:Sto}{k j:Nat}{x:br}(h:k≠j):(s.sr k x).row_Row[j]? = s.row_Row[j]? :=by simp [Sto.sr,h]
theorem Be (s:Sto) (k:Nat) (x y:br):(s.sr k x).sr k y=s.sr k y:=by simp [Sto.sr]
theorem yT {s:Sto}{k:Nat}{x:br}(h:s.row_Row[k]? = some x):s.sr k x=s:=by
 have:s.row_Row.set k x=s.row_Row:=by
  apply bZ;intro j;by_cases hj:k=j
  ·subst hj; rw [bA (cR h),h]
  ·rw [bh hj]
 simp [Sto.sr,this]
theorem BL (s:Sto) (x:br):(s.add_row_Row x).row_Row[s.row_Row.length]? = some x:=by simp [Sto.add_row_Row]
theorem HA (s:Sto) (x y:br):(s.add_row_Row x).sr s.row_Row.length y=s.add_row_Row y:=by simp [Sto.sr,Sto.add_row_Row]
variable {s:Sto}{k:Nat}{l:List ab}{w:Bool}
theorem jA (h:s.row_Row[k]? = some ⟨l,w⟩):bS s (some k)=some (l.length:Int):=by simp [bS,h]
theorem vG {c:ab}(h:c.Text.length<=1000000):lR c=some c:=by
 simp only [lR,gy,cU (show ([]:List Int).length+c.Text.length<=1099511627776 by simp; omega),bsm,bm]
theorem Ds (h:s.row_Row[k]? = some ⟨l,w⟩):jF s (some k)=some w:=by simp [jF,h,bT]
theorem vV (h:s.row_Row[k]? = some ⟨l,w⟩) (on:Bool):fv s (some k) on=some (s.sr k ⟨l,on⟩):=by
 simp [fv,h,vD (cR h)]
theorem rT (h:s.row_Row[k]? = some ⟨l,w⟩) (hl:l.length<=1000000) (hs:Sht l):eN s (some k)=some l:=by
 unfold eN;rw [jA h];simp only [bsm];rw [pO (s:=(([]:List ab),(0:Int))) (t:=l) (fun st:List ab×Int=>∃i:Nat,st=(l.take i,(i:Int))/\i<=l.length) (fun st=>l.length-st.2.toNat) ?_ ⟨0,rfl,cE _⟩ (by simp)]
 ·rfl
 ·rintro st ⟨i,rfl,hi⟩;rcases aQ i l.length with hlt|hge
  ·refine .inl ⟨(l.take (i+1),((i+1:Nat):Int)),?_,⟨i+1,rfl,hlt⟩,by simp; omega⟩;have e3:w64 ((i:Int)+1)=((i+1:Nat):Int):=by rw [aG (by omega)]; simp
   simp only [mC,hlt,kb,bz,bsm,h,bp hlt,vG (hs i hlt),e3];rw [cU (by rw [ay]; simp; omega),ax hlt];rfl
  ·obtain rfl:i=l.length:=by omega
   exact .inr (by simp)
theorem ze (h:s.row_Row[k]? = some ⟨l,w⟩){i:Nat}(hi:i<l.length) (hs:Sht l):gA s (some k) i=some (l[i],true):=by
 unfold gA;rw [jA h];simp only [bsm,bD];rw [af (by simp; omega)];simp only [h,bsm,bp hi,vG (hs i hi)]
theorem zd (h:s.row_Row[k]? = some ⟨l,w⟩) (i:Nat):iv s (some k) i=some (kd l i):=by
 unfold iv;rw [jA h];simp only [bsm,bD];by_cases hi:i<l.length
 ·rw [af (by simp; omega)];simp only [h,bsm,bp hi,lc hi]
 ·rw [ae (by simp; omega),mS (by omega)]
theorem xY (h:s.row_Row[k]? = some ⟨l,w⟩){i:Nat}(hi:i<l.length) (hl:l.length<=1000000){c:ab}(hc:c.Text.length<=1000000):
  go s (some k) i c=some (s.sr k ⟨l.set i c,w && !decide (i+1=l.length)⟩):=by
 unfold go;have e:w64 (((l.set i c).length:Int)-1)=(l.length:Int)-1:=by rw [cx,aG (by omega)]
 simp only [h,bsm,vG hc,bp hi,lq hi,vD (cR h),e];by_cases hn:i+1=l.length
 ·rw [ae (by simp; omega),vD (by rw [Gv]; exact cR h),Be];simp [hn]
 ·rw [af (by simp; omega)];simp [hn]
def sd (n:Int):Nat:=(max 1 (min n 1024)).toNat
theorem tF (n:Int):1<=sd n/\sd n<=1024:=by unfold sd; omega
theorem Bg {n:Nat}(h:1<=n) (h2:n<=1024):sd n=n:=by unfold sd; omega
theorem uR (n:Int):eI n=some (List.replicate (max 0 (min n 1024)).toNat bl):=by
 unfold eI;simp only [fq,dF];rw [oF _ (by omega)];rfl
theorem xZ (n:Int):kU s n=some (s.add_row_Row ⟨List.replicate (sd n) bl,false⟩,some s.row_Row.length):=by
 unfold kU;rw [uR];simp only [bsm,fq];rw [show (max 0 (min (max 1 n) 1024)).toNat=sd n by unfold sd; omega]
theorem uq (n:Nat):Snd (List.replicate n bl):=fun i h=>by
 rw [jt];exact ⟨rfl,fun h=>by simp [bl] at h,fun h=>by simp [bl] at h⟩
theorem GF (hl:1<=l.length) (hl2:l.length<=1024) (hs:Snd l):ra s l=some (s.add_row_Row ⟨l,false⟩,some s.row_Row.length,Er.nil):=by
 unfold ra;obtain ⟨b,h1,h2⟩:=wB l (by omega);have hb:b=true:=h2.2 hs;subst hb;simp only [bD,bsm,h1];rw [af (by rw [aD,aT,an]; omega),af (by simp),xZ,Bg hl hl2];simp only [bsm];rw [pO (s:=((0:Int),s.add_row_Row ⟨List.replicate l.length bl,false⟩)) (t:=s.add_row_Row ⟨l,false⟩) (fun st:Int×Sto=>∃i:Nat,st=((i:Int),s.add_row_Row ⟨l.take i++List.replicate (l.length-i) bl,false⟩)/\i<=l.length) (fun st=>l.length-st.1.toNat) ?_ ⟨0,by simp,cE _⟩ (by simp)]
 ·rfl
 ·rintro st ⟨i,rfl,hi⟩;rcases aQ i l.length with hlt|hge
  ·refine .inl ⟨_,?_,⟨i+1,rfl,hlt⟩,by simp; omega⟩;have e3:w64 ((i:Int)+1)=((i+1:Nat):Int):=by rw [aG (by omega)]; simp
   have hlen:(l.take i++List.replicate (l.length-i) bl).length=l.length:=by simp; omega
   simp only [mC,hlt,kb,bz,bp hlt,bsm,BL,vG (hs.sht i hlt),e3];rw [bp (show i<(l.take i++List.replicate (l.length-i) bl).length by omega)];simp only [bsm];rw [lq (show i<(l.take i++List.replicate (l.length-i) bl).length by omega)];simp only [bsm];rw [vD (cR (BL _ _)),HA];simp only [bsm];have:(l.take i++List.replicate (l.length-i) bl).set i l[i]=l.take (i+1)++List.replicate (l.length-(i+1)) bl:=by
    rw [oC _ _ (by rw [ay]; omega),ay,cH hi,oh,show l.length-i=(l.length-(i+1))+1 by omega,List.replicate_succ,rO,ax hlt,aO];rfl
   rw [this]
  ·obtain rfl:i=l.length:=by omega
   exact .inr (by simp)
def tch (l:List ab) (a n j:Nat):Bool:=(decide (a<=j) && decide (j<a+n)) || (decide (kd l j=2) && decide (a<=j+1) && decide (j+1<a+n)) || (decide (kd l j=3) && decide (a+1<=j) && decide (j<a+n+1))
def pc (l:List ab) (a:Nat) (p:List ab) (j:Nat):ab:=
 if a<=j/\j<a+p.length then p.getD (j-a) bl else if tch l a p.length j=true then bl else l.getD j bl
def pl (l:List ab) (a:Nat) (p:List ab):List ab:=(List.range l.length).map (pc l a p)
def pw (l:List ab) (w:Bool) (a n:Nat):Bool:=w && !(decide (0<l.length) && tch l a n (l.length-1))
theorem jO (l:List ab) (a:Nat) (p:List ab):(pl l a p).length=l.length:=by simp [pl]
theorem uB {a:Nat}{p:List ab}{j:Nat}(h:j<l.length):(pl l a p)[j]? = some (pc l a p j):=by simp [pl,h]
theorem F8 {a:Nat}{p:List ab}{j:Nat}(h:j<(pl l a p).length):(pl l a p)[j]=pc l a p j:=by simp [pl]
theorem DR {a:Nat}{p:List ab}{j:Nat}(h:j<l.length):kd (pl l a p) j=(pc l a p j).Kind:=by simp [kd,uB h]
theorem Snd.two (h:Snd l){j:Nat}(hj:kd l j=2):kd l (j+1)=3:=by
 have hlt:j<l.length:=by
  rcases aQ j l.length with h|h
  ·exact h
  ·rw [mS h] at hj; cases hj
 exact (h j hlt).2.1 (by rw [<-lc hlt]; exact hj)
theorem Snd.three (h:Snd l){j:Nat}(hj:kd l j=3):0<j/\kd l (j-1)=2:=by
 have hlt:j<l.length:=by
  rcases aQ j l.length with h|h
  ·exact h
  ·rw [mS h] at hj; cases hj
 exact (h j hlt).2.2 (by rw [<-lc hlt]; exact hj)
theorem vd {j:Nat}(h:kd l j≠0):j<l.length:=by
 rcases aQ j l.length with h'|h'
 ·exact h'
 ·exact absurd (mS h') h
theorem Snd.rg (h:Snd l){j:Nat}(hj:j<l.length):rgt (l.getD j bl)=true:=by
 rw [ao,ag hj];exact (h j hj).1
theorem nL (l:List ab) (j:Nat):(l.getD j bl).Kind=kd l j:=by
 rw [ao,kd]
 cases l[j]? <;> rfl
theorem Snd.paint {a:Nat}{p:List ab}(h:Snd l) (hp:Snd p) (ha:a+p.length<=l.length):Snd (pl l a p):=fun j hj=>by
 rw [jO] at hj;rw [F8];have kpc:∀i,i<l.length->(pc l a p i).Kind=if a<=i/\i<a+p.length then kd p (i-a) else if tch l a p.length i=true then 0 else kd l i:=fun i hi=>by
  unfold pc;split
  ·exact nL _ _
  ·split
   ·rfl
   ·exact nL _ _
 have kall:∀i,kd (pl l a p) i=if i<l.length then (if a<=i/\i<a+p.length then kd p (i-a) else if tch l a p.length i=true then 0 else kd l i) else 0:=fun i=>by
  by_cases hi:i<l.length
  ·rw [ae hi,DR hi,kpc i hi]
  ·rw [af hi,mS (by rw [jO]; omega)]
 refine ⟨?_,fun h2=>?_,fun h3=>?_⟩
 ·unfold pc;split
  ·exact hp.rg (by omega)
  ·split
   ·rfl
   ·exact h.rg hj
 ·rw [kpc j hj] at h2;rw [kall];by_cases hin:a<=j/\j<a+p.length
  ·rw [ae hin] at h2;have h4:=hp.two h2;have h5:j-a+1<p.length:=vd (by rw [h4]; decide);rw [ae (by omega),ae (by omega),show j+1-a=j-a+1 by omega]; exact h4
  ·rw [af hin] at h2;split at h2
   ·cases h2
   ·rename_i ht
    have h4:=h.two h2;have h5:j+1<l.length:=vd (by rw [h4]; decide);simp only [tch,h2,kb,dH,aD,av,an,GV,zp] at ht;have h6:¬(a<=j+1/\j+1<a+p.length):=by omega
    have h7:¬tch l a p.length (j+1)=true:=by
     simp only [tch,h4,aD,av,an];omega
    rw [ae h5,af h6,af h7]; exact h4
 ·rw [kpc j hj] at h3;by_cases hin:a<=j/\j<a+p.length
  ·rw [ae hin] at h3;have h4:=hp.three h3;refine ⟨by omega,?_⟩;rw [kall,ae (by omega),ae (by omega),show j-1-a=j-a-1 by omega]; exact h4.2
  ·rw [af hin] at h3;split at h3
   ·cases h3
   ·rename_i ht
    have h4:=h.three h3;refine ⟨h4.1,?_⟩;simp only [tch,h3,kb,dH,aD,av,an,GV,zp] at ht;have h6:¬(a<=j-1/\j-1<a+p.length):=by omega
    have h7:¬tch l a p.length (j-1)=true:=by
     simp only [tch,h4.2,aD,av,an];omega
    rw [kall,ae (by omega),af h6,af h7]; exact h4.2
theorem uA (l:List ab) (w:Bool) (a:Nat) (p:List ab) (hl:l.length<=1000000) (ha:a<=1000000) (hp:p.length<=1000000):eB l w a p=some (pl l a p,pw l w a p.length):=by
 unfold eB;rw [pO (s:=(w,([]:List ab),(0:Int))) (t:=(pw l w a p.length,pl l a p)) (fun st:Bool×List ab×Int=>∃i:Nat,st=(if i<l.length then w else pw l w a p.length,(pl l a p).take i,(i:Int))/\i<=l.length) (fun st=>l.length-st.2.2.toNat) ?_ ⟨0,?_,cE _⟩ (by simp)]
 ·rfl
 ·rintro st ⟨i,rfl,hi⟩;rcases aQ i l.length with hlt|hge
  ·refine .inl ⟨_,?_,⟨i+1,rfl,hlt⟩,by simp; omega⟩;have e3:w64 ((i:Int)+1)=((i+1:Nat):Int):=by rw [aG (by omega)]; simp
   have e4:w64 ((a:Int)+(p.length:Int))=((a+p.length:Nat):Int):=by rw [aG (by omega)]; simp
   have e5:w64 ((i:Int)-(a:Int))=(i:Int)-a:=aG (by omega);have e6:w64 ((i:Int)-1)=(i:Int)-1:=aG (by omega);have hd:decide ((i:Int)<(l.length:Int))=true:=by simp; exact hlt
   simp only [hd,bz,ae hlt,bp hlt,bsm,bi,bD,e3,e4,e5,e6];have happ:∀x:ab,x=pc l a p i->app ((pl l a p).take i) [x]=some ((pl l a p).take (i+1)):=fun x hx=>by
    subst hx;rw [cU (by rw [ay,jO]; simp; omega),ax (show i<(pl l a p).length by rw [jO]; exact hlt),F8]
   by_cases hin:a<=i/\i<a+p.length
   ·have c1:(decide ((i:Int)>=a) && decide ((i:Int)<((a+p.length:Nat):Int)))=true:=by simp; omega
    obtain ⟨q,hq⟩:∃q:Nat,q=i-a:=⟨_,rfl⟩;have c2:(i:Int)-a=(q:Int):=by omega
    have hqp:q<p.length:=by omega
    simp only [c1,bz,c2,bp hqp,bsm,dk,iF,mw,ak,ba,Bool.true_or,FZ];rw [happ ⟨p[q].Kind,p[q].Text⟩ (by rw [pc,ae hin,<-hq,ao,ag hqp]; rfl)];by_cases hn:i+1=l.length
    ·have c3:(((i+1:Nat):Int)==(l.length:Int))=true:=by simp; omega
     have c4:pw l w a p.length=false:=by
      have:tch l a p.length (l.length-1)=true:=by simp [tch]; omega
      simp [pw,this]; omega
     simp only [c3,bz,bsm,c4];rw [af (by omega)]
    ·have c3:(((i+1:Nat):Int)==(l.length:Int))=false:=by simp; omega
     simp only [c3,ak,ba,bsm];rw [ae (show i+1<l.length by omega)]
   ·have c1:(decide ((i:Int)>=a) && decide ((i:Int)<((a+p.length:Nat):Int)))=false:=by simp; omega
    have c5:((l[i].Kind==2 && decide (((i+1:Nat):Int)>=a) && decide (((i+1:Nat):Int)<((a+p.length:Nat):Int))) || (l[i].Kind==3 && decide ((i:Int)-1>=a) && decide ((i:Int)-1<((a+p.length:Nat):Int))))=tch l a p.length i:=by
     rw [cu];simp only [tch,lc hlt,aD,av,aT,an];omega
    simp only [c1,ak,ba,bsm,eL,ip,jv,dH];simp only [c5]
    cases ht:tch l a p.length i with
    | true=>
     simp only [bz,bsm,FZ];rw [happ ⟨0,[]⟩ (by rw [pc,af hin,ae ht]; rfl)];by_cases hn:i+1=l.length
     ·have c3:(((i+1:Nat):Int)==(l.length:Int))=true:=by simp; omega
      have c4:pw l w a p.length=false:=by
       have e:l.length-1=i:=by omega
       simp [pw,e,ht]; omega
      simp only [c3,bz,bsm,c4];rw [af (by omega)]
     ·have c3:(((i+1:Nat):Int)==(l.length:Int))=false:=by simp; omega
      simp only [c3,ak,ba,bsm];rw [ae (show i+1<l.length by omega)]
    | false=>
     simp only [ak,ba,bsm,EJ];rw [happ ⟨l[i].Kind,l[i].Text⟩ (by rw [pc,af hin,af (by simp [ht]),ao,ag hlt]; rfl)];by_cases hn:i+1=l.length
     ·have c4:pw l w a p.length=w:=by
       have e:l.length-1=i:=by omega
       simp [pw,e,ht]
      simp only [bsm,c4,ite_self]
     ·simp only [bsm];rw [ae (show i+1<l.length by omega)]
  ·obtain rfl:i=l.length:=by omega
   refine .inr ?_;have e:(pl l a p).take l.length=pl l a p:=aC (by rw [jO]; exact az _);simp [e]
 ·by_cases h0:0<l.length
  ·simp [h0]
  ·simp [h0,pw]
end Go.Proofs.YtclmdpamofdoiaaGreatDoor
namespace Go.Proofs.YtclmdpamofdoiaaGreatDoor
open Go Go.Lt
variable {s:Sto}{k:Nat}{l p:List ab}{w:Bool}
theorem Cs {i j:Nat}(h:i≠j) (c:ab):kd (l.set i c) j=kd l j:=by simp [kd,bh h]
theorem oT (h:s.row_Row[k]? = some ⟨l,w⟩) (hs:Snd l) (hl:l.length<=1024) (hp:Snd p){a:Nat}(hn:1<=p.length) (ha:a+p.length<=l.length):
  ei s (some k) a p=some (s.sr k ⟨pl l a p,pw l w a p.length⟩,Er.nil):=by
 unfold ei;have hk:=cR h;obtain ⟨b,hb1,hb2⟩:=wB p (by omega);have hb:b=true:=hb2.2 hp;subst hb;have e1:w64 ((l.length:Int)-(a:Int))=(l.length:Int)-a:=aG (by omega);have e2:w64 ((a:Int)+(p.length:Int))=((a+p.length:Nat):Int):=by rw [aG (by omega)]; simp
 have o1:decide ((a:Int)<0)=false:=by simp
 have o2:decide ((a:Int)>(l.length:Int))=false:=by simp; omega
 have o3:decide ((p.length:Int)>(l.length:Int)-(a:Int))=false:=by simp; omega
 have o4:((p.length:Int)==0)=false:=by rw [dA]; omega
 simp only [bO,ez,o1,o2,o3,o4,h,e1,e2,hb1,bsm,ak,ba,dk,zd h a];obtain ⟨l1,hl1⟩:∃l1,l1=if kd l a=3 then l.set (a-1) bl else l:=⟨_,rfl⟩;have hlen1:l1.length=l.length:=by rw [hl1]; split <;> simp
 have left:(if (kd l a==3)=true then (go s (some k) (w64 ((a:Int)-1)) (⟨0,([]:List Int)⟩:ab)).bind fun x_60=>(some (x_60):Option (Sto)) else (some (s):Option (Sto)))=some (s.sr k ⟨l1,w⟩):=by
  by_cases h3:kd l a=3
  ·have h4:=hs.three h3;have h5:a<l.length:=vd (by rw [h3]; decide);rw [ae (by simpa using h3),show w64 ((a:Int)-1)=((a-1:Nat):Int) by rw [aG (by omega)]; omega,xY h (by omega) (by omega) (by simp)];rw [hl1,ae h3];have:decide (a-1+1=l.length)=false:=by simp; omega
   simp only [bsm,this,eL,FZ];rfl
  ·rw [af (by simpa using h3),hl1,af h3,yT h]
 rw [left];simp only [bsm];obtain ⟨l2,hl2⟩:∃l2,l2=if kd l (a+p.length)=3 then l1.set (a+p.length) bl else l1:=⟨_,rfl⟩;obtain ⟨w2,hw2⟩:∃w2,w2=(w && !(decide (kd l (a+p.length)=3) && decide (a+p.length+1=l.length))):=⟨_,rfl⟩;have hlen2:l2.length=l.length:=by rw [hl2]; split <;> simp [hlen1]
 have hget1:(s.sr k ⟨l1,w⟩).row_Row[k]? = some ⟨l1,w⟩:=sV hk;have hkd1:kd l1 (a+p.length)=kd l (a+p.length):=by
  rw [hl1]; split
  ·exact Cs (by omega) _
  ·rfl
 have right:((iv (s.sr k ⟨l1,w⟩) (some k) ((a+p.length:Nat):Int)).bind fun x_71=>
   if (x_71==3)=true then
   (go (s.sr k ⟨l1,w⟩) (some k) ((a+p.length:Nat):Int) (⟨0,([]:List Int)⟩:ab)).bind fun x_77=>
   (some (x_77):Option (Sto))
   else
   (some (s.sr k ⟨l1,w⟩):Option (Sto)))=some (s.sr k ⟨l2,w2⟩):=by
  rw [zd hget1,hkd1];simp only [bsm];by_cases h3:kd l (a+p.length)=3
  ·have h5:a+p.length<l.length:=vd (by rw [h3]; decide);rw [ae (by simpa using h3),xY hget1 (by omega) (by omega) (by simp)];simp only [bsm,Be];rw [hl2,ae h3,hw2,hlen1];simp only [h3,kb,dH];rfl
  ·rw [af (by simpa using h3),hl2,af h3,hw2];simp [h3]
 rw [right];simp only [bsm];rw [pO (s:=((0:Int),s.sr k ⟨l2,w2⟩)) (t:=s.sr k ⟨l2.take a++p++l2.drop (a+p.length),w2 && !decide (a+p.length=l.length)⟩)
  (fun st:Int×Sto=>∃i:Nat,st=((i:Int),s.sr k ⟨l2.take a++p.take i++l2.drop (a+i),w2 && !(decide (0<i) && decide (a+i=l.length))⟩)/\i<=p.length) (fun st=>p.length-st.1.toNat) ?_ ⟨0,?_,cE _⟩ (by simp)]
 ·simp only [bsm,aV,iq,wQ]
  congr 1
  congr 1
  ·
   apply bZ;intro j;rcases aQ j l.length with hj|hj
   ·rw [uB hj];have g1:∀j,j<l.length->j≠a+p.length->l1[j]? = some (if kd l a=3/\j=a-1 then bl else l.getD j bl):=fun j hj _=>by
     rw [hl1];split
     ·rename_i h3
      by_cases hja:j=a-1
      ·subst hja;rw [bA (by omega),ae ⟨h3,rfl⟩]
      ·rw [bh (sQ hja),af (fun e=>hja e.2),ag hj,ao,ag hj]; rfl
     ·rename_i h3
      rw [af (fun e=>h3 e.1),ag hj,ao,ag hj]; rfl
    have lw:(l2.take a).length=a:=by rw [ay]; omega
    rcases aQ j a with hja|hja
    ·rw [aO,aL (by omega),aW,ae hja];have e:l2[j]? = l1[j]? :=by
      rw [hl2]; split
      ·exact bh (by omega)
      ·rfl
     have hp0:¬(a<=j/\j<a+p.length):=by omega
     rw [e,g1 j hj (by omega),pc,af hp0]
     congr 1
     by_cases hc:kd l a=3/\j=a-1
     ·rw [ae hc,ae];have h4:=hs.three hc.1;simp only [tch,aD,av,an];refine .inl (.inr ⟨⟨?_,?_⟩,?_⟩)
      ·rw [hc.2]; exact h4.2
      ·omega
      ·omega
     ·rw [af hc,af];simp only [tch,aD,av,an,GV,zp];refine ⟨⟨fun h=>by omega,fun h2=>?_⟩,fun h=>by omega⟩;have h3:=hs.two h2.1;have:j+1=a:=by omega
      rw [this] at h3;exact absurd ⟨h3,by omega⟩ hc
    ·rcases aQ j (a+p.length) with hjn|hjn
     ·rw [aO,bu (by omega),aL (by omega),lw,pc,ae ⟨hja,hjn⟩,ao,ag (by omega)];rfl
     ·rw [bu (by rw [aA]; omega),bP,aA,lw,show a+p.length+(j-(a+p.length))=j by omega];rw [pc,af (by omega)];by_cases hc:kd l (a+p.length)=3/\j=a+p.length
      ·rw [hl2,ae hc.1,hc.2,bA (by omega),ae];simp only [tch,aD,av,an];exact .inr ⟨⟨hc.1,by omega⟩,by omega⟩
      ·have e:l2[j]? = some (l.getD j bl):=by
        have e2:l1[j]? = some (l.getD j bl):=by
         rw [hl1]; split
         ·rw [bh (by omega),ao,ag hj]; rfl
         ·rw [ao,ag hj]; rfl
        rw [hl2]; split
        ·rename_i h3
         rw [bh (fun e=>hc ⟨h3,e.symm⟩),e2]
        ·exact e2
       rw [e,af];simp only [tch,aD,av,an,GV,zp];refine ⟨⟨fun h=>by omega,fun h=>by omega⟩,fun h2=>?_⟩;intro h4;have:j=a+p.length:=by omega
       exact hc ⟨by rw [<-this]; exact h2.1,this⟩
   ·rw [aS (l:=pl l a p) (by rw [jO]; exact hj),aS (by simp only [aA,ay,bB]; omega)]
  ·
   rw [hw2,pw,Bool.and_assoc]
   congr 1
   rw [<-Bool.not_or]
   congr 1
   have h2:kd l (l.length-1)≠2:=fun h2=>by
    have:=hs.two h2;rw [show l.length-1+1=l.length by omega,mS (az _)] at this;cases this
   rw [cu];simp only [tch,aD,av,an];constructor
   ·rintro (⟨h3,h4⟩|h4)
    ·refine ⟨by omega,.inr ⟨⟨?_,by omega⟩,by omega⟩⟩;rw [show l.length-1=a+p.length by omega]; exact h3
    ·exact ⟨by omega,.inl (.inl ⟨by omega,by omega⟩)⟩
   ·rintro ⟨h0,(⟨h3,h4⟩|⟨⟨h3,_⟩,_⟩)|⟨⟨h3,h4⟩,h5⟩⟩
    ·exact .inr (by omega)
    ·exact absurd h3 h2
    ·by_cases hx:a+p.length=l.length
     ·exact .inr hx
     ·have:l.length-1=a+p.length:=by omega
      exact .inl ⟨by rw [<-this]; exact h3,by omega⟩
 ·rintro st ⟨i,rfl,hi⟩;rcases aQ i p.length with hlt|hge
  ·refine .inl ⟨_,?_,⟨i+1,rfl,hlt⟩,by simp; omega⟩;have e3:w64 ((i:Int)+1)=((i+1:Nat):Int):=by rw [aG (by omega)]; simp
   have e4:w64 ((a:Int)+(i:Int))=((a+i:Nat):Int):=by rw [aG (by omega)]; simp
   have hd:decide ((i:Int)<(p.length:Int))=true:=by simp; exact hlt
   have hli:(l2.take a++p.take i++l2.drop (a+i)).length=l.length:=by
    simp only [aA,ay,bB]; omega
   simp only [hd,bz,bp hlt,bsm,e3,e4];rw [xY (sV hk) (by rw [hli]; omega) (by rw [hli]; omega) (hp.sht i hlt)];simp only [bsm,Be,hli];have hset:(l2.take a++p.take i++l2.drop (a+i)).set (a+i) p[i]=l2.take a++p.take (i+1)++l2.drop (a+(i+1)):=by
    have hx:(l2.take a++p.take i).length=a+i:=by simp only [aA,ay]; omega
    rw [oC _ _ (by omega),hx,oh,gM (show a+i<l2.length by omega),rO,ax hlt];simp only [aO,cv,bm,tq]
   rw [hset];have hwe:((w2 && !(decide (0<i) && decide (a+i=l.length))) && !decide (a+i+1=l.length))=(w2 && !(decide (0<i+1) && decide (a+(i+1)=l.length))):=by
    have:decide (a+i=l.length)=false:=by simp; omega
    rw [this];simp [tq]
   rw [hwe]
  ·obtain rfl:i=p.length:=by omega
   refine .inr ?_;have:decide (0<p.length)=true:=by simp; omega
   simp [this]
 ·simp
def cl (n:Int) (m:Nat):Nat:=(max 0 (min n m)).toNat
theorem nC (n:Int) (m:Nat):cl n m<=m:=by unfold cl; omega
end Go.Proofs.YtclmdpamofdoiaaGreatDoor
namespace Go.Proofs.YtclmdpamofdoiaaGreatDoor
open Go Go.Lt
variable {s:Sto}{g k W:Nat}{ks:List Nat}{l p:List ab}{w:Bool}
def Sto.sg (s:Sto) (g:Nat) (x:cm):Sto:={ s with grid_Grid:=s.grid_Grid.set g x}
theorem yV {x:cm}(h:g<s.grid_Grid.length):s.set_grid_Grid g x=some (s.sg g x):=by
 simp only [Sto.set_grid_Grid,h,bz];rfl
theorem Dg {x:cm}(h:g<s.grid_Grid.length):(s.sg g x).grid_Grid[g]? = some x:=by simp [Sto.sg,h]
theorem HU (s:Sto) (g:Nat) (x y:cm):(s.sg g x).sg g y=s.sg g y:=by simp [Sto.sg]
theorem HV {x:cm}(h:s.grid_Grid[g]? = some x):s.sg g x=s:=by
 obtain ⟨h1,h2⟩:=List.getElem?_eq_some_iff.1 h;unfold Sto.sg;rw [<-h2,HL]
def ln (s:Sto) (k:Nat):aj:=match s.row_Row[k]? with|some r=>⟨r.cells,r.wrap⟩|none=>⟨[],false⟩
theorem nP {r:br}(h:s.row_Row[k]? = some r):ln s k=⟨r.cells,r.wrap⟩:=by simp [ln,h]
def Rw (s:Sto) (W k:Nat):Prop:=∃r,s.row_Row[k]? = some r/\Snd r.cells/\r.cells.length=W
structure Gw (s:Sto) (g:Nat) (ks:List Nat) (W:Nat):Prop where
 g:s.grid_Grid[g]? = some ⟨ks.map some⟩
 r:∀k∈ks,Rw s W k
 h1:1<=ks.length
 h2:ks.length<=1024
 w1:1<=W
 w2:W<=1024
theorem Gw.at (h:Gw s g ks W){i:Nat}(hi:i<ks.length):Rw s W ks[i]:=h.r _ (aF hi)
theorem eW (h:Gw s g ks W):bQ s (some g)=some (ks.length:Int):=by simp [bQ,h.g]
theorem ft (h:Gw s g ks W){i:Nat}(hi:i<ks.length):bF s (some g) i=some (some ks[i]):=by
 unfold bF;rw [eW h];simp only [bsm,bD];rw [af (by simp; omega)];simp only [bsm,h.g];rw [bp (by simpa using hi)];simp
theorem tU (h:Gw s g ks W){i:Int}(hi:i<0\/(ks.length:Int)<=i):bF s (some g) i=some none:=by
 unfold bF;rw [eW h];simp only [bsm,bD];rw [ae (by simp; omega)]
theorem xM (h:Rw s W k):bS s (some k)=some (W:Int):=by
 obtain ⟨r,h1,_,h3⟩:=h;rw [jA (l:=r.cells) (w:=r.wrap) h1,h3]
theorem jB (h:Gw s g ks W):cr s (some g)=some (W:Int):=by
 unfold cr;rw [show (0:Int)=((0:Nat):Int) from rfl,ft h (show 0<ks.length from h.h1)];simp only [bsm];rw [xM (h.at h.h1)];rfl
theorem zA (h:Gw s g ks W){i:Nat}(hi:i<ks.length) (hk:Rw s W k):eO s (some g) i (some k)=some (s.sg g ⟨(ks.set i k).map some⟩,true):=by
 unfold eO;rw [ft h hi];simp only [bsm,xM (h.at hi),xM hk,bO,ez];rw [af (by simp)];simp only [h.g,bsm];rw [bp (by simpa using hi),lq (by simpa using hi)];simp only [bsm];rw [yV (cR h.g)];simp
theorem Gw.set (h:Gw s g ks W){i:Nat}(hk:Rw s W k):Gw (s.sg g ⟨(ks.set i k).map some⟩) g (ks.set i k) W:=
 ⟨Dg (cR h.g),fun j hj=>by
  rcases EK hj with hj|rfl
  ·exact h.r j hj
  ·exact hk,by simpa using h.h1,by simpa using h.h2,h.w1,h.w2⟩
theorem AJ (h:Gw s g ks W):jl s (some g)=some (ks.map (ln s)):=by
 have hh:=h.h2;have hw:=h.w2;unfold jl;rw [eW h];simp only [bsm];obtain ⟨t,h1,h2⟩:=ep (σ:=(List aj)×Int) (τ:=List aj) (n:=ks.length) (fuel:=((ks.length:Int)-0).toNat+1) (s:=(([]:List aj),0))
  (fun i q=>q=((ks.take i).map (ln s),(i:Int))) (fun t=>t=ks.map (ln s))
  (step:=fun s_9=>
 if (decide (s_9.2<(ks.length:Int)))=true then
 (s.grid_Grid[g]?).bind fun o_19=>
 (idx o_19.rows s_9.2).bind fun x_21=>
 (idx o_19.rows s_9.2).bind fun x_28=>
 (eN s x_21).bind fun x_30=>
 (jF s x_28).bind fun x_31=>
 (app s_9.1 ([(⟨x_30,x_31⟩:aj)]:List aj)).bind fun x_34=>
 some (.inl (x_34,(w64 (s_9.2+1))))
 else
 some (.inr (s_9.1)))
  (fun i q hi e=>by
   subst e;refine .inl ⟨_,?_,rfl⟩;obtain ⟨r,r1,r2,r3⟩:=h.at hi;have e5:w64 ((i:Int)+1)=((i+1:Nat):Int):=by rw [aG (by omega)]; simp
   have hd:decide ((i:Int)<(ks.length:Int))=true:=by simp; exact hi
   have hi2:i<(ks.map some).length:=by simpa using hi
   simp only [hd,bz,bsm,h.g,bp hi2,ek,e5];rw [rT (l:=r.cells) (w:=r.wrap) r1 (by omega) r2.sht,Ds (l:=r.cells) (w:=r.wrap) r1];simp only [bsm];rw [cU (by simp; omega)];simp only [bsm];rw [ax hi,bU];simp [nP r1])
  (fun q e=>⟨_,by subst e; simp,rfl⟩)
  (by simp) (by omega)
 subst h2;rw [h1];rfl
def Okl (W:Nat) (x:aj):Prop:=Snd x.Cells/\x.Cells.length=W
theorem AF {a:List aj}(ha:a.length<=1000000) (hs:∀x∈a,x.Cells.length<=1000000/\Sht x.Cells):fa a a=some true:=by
 unfold fa;rw [af (by simp)];obtain ⟨t,h1,h2⟩:=ep (σ:=Int) (τ:=Bool ⊕ Unit) (n:=a.length) (fuel:=((a.length:Int)-0).toNat+1) (s:=0)
  (fun i q=>q=(i:Int)) (fun t=>t= .inr ())
  (step:=fun s_13=>
 if (decide (s_13<(a.length:Int)))=true then
 (idx a s_13).bind fun x_21=>
 (idx a s_13).bind fun x_26=>
 (orE (!(x_21.Wrap==x_26.Wrap)) ((idx a s_13).bind fun x_34=>
 (idx a s_13).bind fun x_39=>
 (dV x_34.Cells x_39.Cells).bind fun x_42=>
 some (!x_42))).bind fun d_30=>
 if d_30=true then
 some (.inr (.inl false))
 else
 some (.inl ((w64 (s_13+1))))
 else
 some (.inr (.inr ())))
  (fun i q hi e=>by
   subst e;refine .inl ⟨_,?_,rfl⟩;have hm:=hs _ (aF hi);have e5:w64 ((i:Int)+1)=((i+1:Nat):Int):=by rw [aG (by omega)]; simp
   have hd:decide ((i:Int)<(a.length:Int))=true:=by simp; exact hi
   simp only [hd,bz,bp hi,bsm,e5,B2 (show a[i].Cells.length<=9223372036854775807 by omega) hm.2,oO,dk,ez,ak,ba])
  (fun q e=>⟨_,by subst e; simp,rfl⟩)
  rfl (by omega)
 subst h2;rw [h1];rfl
theorem xa (h:Gw s g ks W):∀x∈ks.map (ln s),Okl W x:=fun x hx=>by
 obtain ⟨k,hk,rfl⟩:=List.mem_map.1 hx;obtain ⟨r,r1,r2,r3⟩:=h.r k hk;rw [nP r1];exact ⟨r2,r3⟩
theorem Ao {a:List aj}(ha:a.length<=1024) (hw:W<=1024) (hs:∀x∈a,Okl W x):fa a a=some true:=
 AF (by omega) fun x hx=>⟨by rw [(hs x hx).2]; omega,(hs x hx).1.sht⟩
theorem Gu {a b:Sto}(h1:a.row_Row=b.row_Row) (h2:a.grid_Grid=b.grid_Grid) (h3: { a with row_Row:=b.row_Row,grid_Grid:=b.grid_Grid}=b):a=b:=
 Eq.trans (show a= { a with row_Row:=b.row_Row,grid_Grid:=b.grid_Grid} by rw [<-h1,<-h2]) h3
def Sto.rst (s:Sto):Sto:={ s with row_Row:=[],grid_Grid:=[]}
def Sto.oth (s:Sto):Sto:={ s with row_Row:=[],grid_Grid:=[],place_Pen:=[]}
theorem kT {a b:Sto}(h:a.rst=b.rst):a.place_Pen=b.place_Pen:=by
 have:=gY Sto.place_Pen h;exact this
theorem rS {a b:Sto}(h:a.rst=b.rst):a.oth=b.oth:=by
 have:=gY (fun x:Sto=>({ x with place_Pen:=[]}:Sto)) h;exact this
def Sto.addr (s:Sto) (xs:List br):Sto:={ s with row_Row:=s.row_Row++xs}
theorem EA (s:Sto) (xs:List br):(s.addr xs).row_Row.length=s.row_Row.length+xs.length:=by simp [Sto.addr]
theorem Ac {xs:List br}(h:k<s.row_Row.length):(s.addr xs).row_Row[k]? = s.row_Row[k]? :=aL h
theorem uk {xs:List br}{i:Nat}(h:i<xs.length):(s.addr xs).row_Row[s.row_Row.length+i]? = some xs[i]:=by
 simp [Sto.addr,bu,h]
theorem EB (s:Sto) (xs:List br) (x:br):(s.addr xs).add_row_Row x=s.addr (xs++ [x]):=by simp [Sto.addr,Sto.add_row_Row]
theorem Ad (s:Sto):s.addr []=s:=by simp [Sto.addr]
theorem Rw.lt (h:Rw s W k):k<s.row_Row.length:=by obtain ⟨r,h,_⟩:=h; exact cR h
theorem Rw.addr {xs:List br}(h:Rw s W k):Rw (s.addr xs) W k:=by
 obtain ⟨r,h1,h2⟩:=h;exact ⟨r,by rw [Ac (cR h1)]; exact h1,h2⟩
theorem Gw.addr {xs:List br}(h:Gw s g ks W):Gw (s.addr xs) g ks W:=⟨h.g,fun k hk=>(h.r k hk).addr,h.h1,h.h2,h.w1,h.w2⟩
theorem wj {xs:List br}(h:k<s.row_Row.length):ln (s.addr xs) k=ln s k:=by unfold ln; rw [Ac h]
theorem DO {xs:List br}{i:Nat}(h:i<xs.length):ln (s.addr xs) (s.row_Row.length+i)=⟨xs[i].cells,xs[i].wrap⟩:=nP (uk h)
def lr (x:aj):br:=⟨x.Cells,x.Wrap⟩
theorem Ge {L:List aj}(h1:1<=L.length) (h2:L.length<=1024)
  (hok:∀i (h:i<L.length),1<=L[i].Cells.length/\L[i].Cells.length<=1024/\Snd L[i].Cells/\L[i].Cells.length=(L[0]'(by omega)).Cells.length):
  Gw ((s.addr (L.map lr)).add_grid_Grid ⟨(List.range' s.row_Row.length L.length).map some⟩) s.grid_Grid.length (List.range' s.row_Row.length L.length) (L[0]'(by omega)).Cells.length/\
   (List.range' s.row_Row.length L.length).map (ln ((s.addr (L.map lr)).add_grid_Grid ⟨(List.range' s.row_Row.length L.length).map some⟩))=L:=by
 have hr:∀i (h:i<L.length),((s.addr (L.map lr)).add_grid_Grid ⟨(List.range' s.row_Row.length L.length).map some⟩).row_Row[s.row_Row.length+i]? = some (lr L[i]):=fun i h=>by
  have:=uk (s:=s) (xs:=L.map lr) (i:=i) (by simpa using h);rw [ek] at this;exact this
 refine ⟨⟨by simp [Sto.add_grid_Grid,Sto.addr],fun k hk=>?_,by simpa using h1,by simpa using h2,(hok 0 (by omega)).1,(hok 0 (by omega)).2.1⟩,?_⟩
 ·rw [Af] at hk;have hi:k-s.row_Row.length<L.length:=by omega
  have:=hr _ hi;rw [show s.row_Row.length+(k-s.row_Row.length)=k by omega] at this;exact ⟨_,this,(hok _ hi).2.2.1,(hok _ hi).2.2.2⟩
 ·refine Jv (by simp) fun i h1 h2=>?_;rw [ek,List.getElem_range',nI,nP (hr i h2)];rfl
theorem icl (a:Int) (m:Nat):aE 0 (aB a (m:Int))=((cl a m:Nat):Int):=by simp only [fq,dF,cl]; omega
theorem xt (h:Gw s g ks W) (a b n:Int):lQ s (some g) a b n=some (⟨(cl a ks.length:Nat),(cl b ks.length:Nat),min n ((cl b ks.length:Int)-(cl a ks.length:Int))⟩,decide (cl a ks.length<cl b ks.length) && decide (0<n)):=by
 have h1:=nC a ks.length;have h2:=nC b ks.length;have hh:=h.h2;unfold lQ;rw [eW h];simp only [bsm,icl,bi];rw [dF,aG (by omega)];simp
theorem uY (h:Gw s g ks W){a b:Nat}(hab:a<=b) (hb:b<=ks.length):kh s (some g) a b=some (((ks.drop a).take (b-a)).map some):=by
 have hh:=h.h2;unfold kh;obtain ⟨t,h1,h2⟩:=ep (σ:=(List (Option Nat))×Int) (τ:=List (Option Nat)) (n:=b-a) (fuel:=((b:Int)-(a:Int)).toNat+1) (s:=(([]:List (Option Nat)),(a:Int)))
  (fun i q=>q=(((ks.drop a).take i).map some,((a+i:Nat):Int))) (fun t=>t=((ks.drop a).take (b-a)).map some)
  (step:=fun s_8=>
 if (decide (s_8.2<(b:Int)))=true then
 (bF s (some g) s_8.2).bind fun x_16=>
 (app s_8.1 ([x_16]:List (Option Nat))).bind fun x_18=>
 some (.inl (x_18,(w64 (s_8.2+1))))
 else
 some (.inr (s_8.1)))
  (fun i q hi e=>by
   subst e;refine .inl ⟨_,?_,rfl⟩;have e5:w64 (((a+i:Nat):Int)+1)=((a+(i+1):Nat):Int):=by rw [aG (by omega)]; simp; omega
   have hd:decide (((a+i:Nat):Int)<(b:Int))=true:=by simp; omega
   simp only [hd,bz];rw [ft h (show a+i<ks.length by omega)];simp only [bsm,e5];rw [cU (by simp; omega)];simp only [bsm];rw [ax (by simp; omega),bU];simp)
  (fun q e=>by
   subst e;have hd:decide (((a+(b-a):Nat):Int)<(b:Int))=false:=by simp; omega
   exact ⟨_,by simp only [hd]; rfl,rfl⟩)
  (by simp) (by omega)
 subst h2;rw [h1];rfl
def bk (W:Nat):br:=⟨List.replicate W bl,false⟩
theorem sH (h:Gw s g ks W){n:Nat}(hn:n<=1024):jg s (some g) n=some (s.addr (List.replicate n (bk W)),(List.range' s.row_Row.length n).map some):=by
 unfold jg;obtain ⟨t,h1,h2⟩:=ep (σ:=(List (Option Nat))×Int×Sto) (τ:=(List (Option Nat))×Sto) (n:=n) (fuel:=((n:Int)-0).toNat+1) (s:=(([]:List (Option Nat)),0,s))
  (fun i q=>q=((List.range' s.row_Row.length i).map some,(i:Int),s.addr (List.replicate i (bk W)))) (fun t=>t=((List.range' s.row_Row.length n).map some,s.addr (List.replicate n (bk W))))
  (step:=fun s_8=>
 if (decide (s_8.2.1<(n:Int)))=true then
 (cr s_8.2.2 (some g)).bind fun x_13=>
 (kU s_8.2.2 x_13).bind fun x_14=>
 (app s_8.1 ([x_14.2]:List (Option Nat))).bind fun x_16=>
 some (.inl (x_16,(w64 (s_8.2.1+1)),x_14.1))
 else
 some (.inr (s_8.1,s_8.2.2)))
  (fun i q hi e=>by
   subst e;refine .inl ⟨_,?_,rfl⟩;have e5:w64 ((i:Int)+1)=((i+1:Nat):Int):=by rw [aG (by omega)]; simp
   have hd:decide ((i:Int)<(n:Int))=true:=by simp; exact hi
   simp only [hd,bz];rw [jB (h.addr (xs:=List.replicate i (bk W)))];simp only [bsm,xZ,Bg h.w1 h.w2,e5];rw [cU (by simp; omega)];simp only [bsm];rw [EB,EA,Jg,bU,wS];simp [bk])
  (fun q e=>⟨_,by subst e; simp,rfl⟩)
  (by simp [Ad]) (by omega)
 subst h2;rw [h1];rfl
def ov (ks:List Nat) (F:Nat) (p:List Nat):List Nat:=ks.take F++p++ks.drop (F+p.length)
theorem uC {F:Nat}{p:List Nat}(h:F+p.length<=ks.length):(ov ks F p).length=ks.length:=by simp [ov]; omega
theorem GS {F i:Nat}{p:List Nat}(h:F+p.length<=ks.length) (hi:i<p.length):(ov ks F (p.take i)).set (F+i) p[i]=ov ks F (p.take (i+1)):=by
 unfold ov;have h1:(ks.take F++p.take i).length=F+i:=by simp; omega
 rw [oC _ _ (by omega),h1,oh,ay,ay,cH (uT hi),cH (show i+1<=p.length by omega),gM (show F+i<ks.length by omega),rO,ax hi];simp only [aO,cv,bm,tq]
def off (s:Sto) (k:Nat):Sto:=s.sr k ⟨(ln s k).Cells,false⟩
theorem zC (h:Rw s W k):fv s (some k) false=some (off s k):=by
 obtain ⟨r,h1,_⟩:=h;rw [vV (l:=r.cells) (w:=r.wrap) h1];unfold off;rw [nP h1]
theorem Rw.off {j:Nat}(h:Rw s W j) (hk:Rw s W k):Rw (off s k) W j:=by
 obtain ⟨r,h1,h2,h3⟩:=h;obtain ⟨q,k1,k2,k3⟩:=hk;by_cases e:k=j
 ·subst e;exact ⟨_,sV (cR k1),by rw [nP k1]; exact ⟨k2,k3⟩⟩
 ·exact ⟨r,(yS e).trans h1,h2,h3⟩
theorem Gw.off (h:Gw s g ks W) (hk:Rw s W k):Gw (off s k) g ks W:=⟨h.g,fun j hj=>(h.r j hj).off hk,h.h1,h.h2,h.w1,h.w2⟩
theorem GX {j:Nat}(hk:Rw s W k):ln (off s k) j=if j=k then ⟨(ln s k).Cells,false⟩ else ln s j:=by
 by_cases e:k=j
 ·subst e;rw [ae rfl];exact nP (sV hk.lt)
 ·rw [af (sQ e)];unfold ln;rw [show (Go.Proofs.YtclmdpamofdoiaaGreatDoor.off s k).row_Row[j]? = s.row_Row[j]? from yS e]
theorem zt (x:cm) (j:Nat):ln (s.sg g x) j=ln s j:=rfl
def offa (s:Sto) (ks:List Nat) (F:Nat):Sto:=if F=0 then s else off s (ks.getD (F-1) 0)
theorem vT (h:Gw s g ks W){F:Nat}{p:List Nat}(hp:F+p.length<=ks.length) (hr:∀k∈p,Rw s W k) (st:iu) (hF:st.from_=(F:Int)):
  eX s st (some g) (p.map some)=some (offa (s.sg g ⟨(ov ks F p).map some⟩) (ov ks F p) F)/\Gw (s.sg g ⟨(ov ks F p).map some⟩) g (ov ks F p) W:=by
 have hh:=h.h2;have key:∀i,i<=p.length->Gw (s.sg g ⟨(ov ks F (p.take i)).map some⟩) g (ov ks F (p.take i)) W:=fun i hi=>
  ⟨Dg (cR h.g),fun k hk=>by
   unfold ov at hk;rw [vm,vm] at hk;rcases hk with (hk|hk)|hk
   ·exact h.r k (du hk)
   ·exact hr k (du hk)
   ·exact h.r k (fS hk),by rw [uC (by simp; omega)]; exact h.h1,by rw [uC (by simp; omega)]; exact h.h2,h.w1,h.w2⟩
 have kend:=key p.length (az _);rw [mB] at kend;refine ⟨?_,kend⟩;unfold eX;rw [hF];obtain ⟨t,h1,h2⟩:=ep (σ:=Int×Sto) (τ:=Sto) (n:=p.length) (fuel:=(((p.map some).length:Int)-0).toNat+1) (s:=((0:Int),s))
  (fun i q=>q=((i:Int),s.sg g ⟨(ov ks F (p.take i)).map some⟩)) (fun t=>t=s.sg g ⟨(ov ks F p).map some⟩)
  (step:=fun s_7=>
 if (decide (s_7.1<((p.map some).length:Int)))=true then
 (idx (p.map some) s_7.1).bind fun x_11=>
 (eO s_7.2 (some g) (w64 ((F:Int)+s_7.1)) x_11).bind fun x_22=>
 some (.inl ((w64 (s_7.1+1)),x_22.1))
 else
 some (.inr (s_7.2)))
  (fun i q hi e=>by
   subst e;refine .inl ⟨_,?_,rfl⟩;have e5:w64 ((i:Int)+1)=((i+1:Nat):Int):=by rw [aG (by omega)]; simp
   have e6:w64 ((F:Int)+(i:Int))=((F+i:Nat):Int):=by rw [aG (by omega)]; simp
   have hd:decide ((i:Int)<((p.map some).length:Int))=true:=by simp; exact hi
   have hi2:i<(p.map some).length:=by simpa using hi
   have hk:=key i (uT hi);simp only [hd,bz,bp hi2,bsm,ek,e5,e6];have hl:(ov ks F (p.take i)).length=ks.length:=uC (by simp; omega);rw [zA hk (show F+i<(ov ks F (p.take i)).length by omega) (hr _ (aF hi))];simp only [bsm];rw [GS hp hi,HU])
  (fun q e=>by
   subst e;rw [mB];exact ⟨_,by simp,rfl⟩)
  (by
   simp only [eK,iq];refine ⟨rfl,(HV ?_).symm⟩;rw [h.g];simp [ov]) (by simp)
 subst h2;rw [h1];simp only [bsm];unfold offa;by_cases h0:F=0
 ·subst h0;rw [ae rfl,tU kend (by left; rw [aG (by omega)]; omega)];rfl
 ·have e7:w64 ((F:Int)-1)=((F-1:Nat):Int):=by rw [aG (by omega)]; omega
  have hl:(ov ks F p).length=ks.length:=uC hp;have hlt:F-1<(ov ks F p).length:=by omega
  rw [af h0,e7,ft kend hlt];simp only [bsm];rw [zC (kend.at hlt),ao,ag hlt];rfl
def dl:aj:=⟨[],false⟩
def mvb (W:Nat) (L:List aj) (F T m:Nat) (up:Bool) (i:Nat):aj:=
 if F<=i/\i<T then (if up=true then (if i+m<T then L.getD (i+m) dl else ⟨List.replicate W bl,false⟩) else (if F+m<=i then L.getD (i-m) dl else ⟨List.replicate W bl,false⟩)) else L.getD i dl
def mvl (W:Nat) (L:List aj) (F T m:Nat) (up:Bool) (i:Nat):aj:=
 if i+1=F\/(up=false/\i+1=T) then ⟨(mvb W L F T m up i).Cells,false⟩ else mvb W L F T m up i
def mv (W:Nat) (L:List aj) (F T:Nat) (n:Int) (up:Bool):List aj:=
 if F<T/\0<n then (List.range L.length).map (mvl W L F T (min n ((T:Int)-(F:Int))).toNat up) else L
theorem gd {i:Nat}(h:i<ks.length):ks.getD i 0=ks[i]:=by rw [ao,ag h]; rfl
theorem gdl {L:List aj}{i:Nat}(h:i<L.length):L.getD i dl=L[i]:=by rw [ao,ag h]; rfl
theorem Bp (nd:ks.Nodup){i j:Nat}(hj:j<ks.length) (hij:i<j):ks.getD i 0≠ks.getD j 0:=by
 rw [gd hj,gd (Nat.lt_trans hij hj)];exact List.pairwise_iff_getElem.1 nd i j _ _ hij
theorem DM {h:Nat}{f:Nat->Nat}(hf:∀i j,i<j->j<h->f i≠f j):((List.range h).map f).Nodup:=by
 rw [List.Nodup,List.pairwise_map];exact List.pairwise_lt_range.imp_of_mem fun _ hb hlt=>hf _ _ hlt (List.mem_range.1 hb)
def kfu (ks:List Nat) (N F T m i:Nat):Nat:=if i<F\/T<=i then ks.getD i 0 else if i+m<T then ks.getD (i+m) 0 else N+(i+m-T)
def kfd (ks:List Nat) (N F T m i:Nat):Nat:=if i<F\/T<=i then ks.getD i 0 else if i<F+m then N+(i-F) else ks.getD (i-m) 0
theorem Io {F T m:Nat}(N:Nat) (h1:F+m<=T) (h2:T<=ks.length):ov ks F ((ks.drop (F+m)).take (T-(F+m))++List.range' N m)=(List.range ks.length).map (kfu ks N F T m):=by
 refine bZ fun i=>?_;rcases aQ i ks.length with hi|hi
 ·rw [bK,dC hi,fH];have e:((ks.drop (F+m)).take (T-(F+m))++List.range' N m).length=T-F:=by simp; omega
  have et:(ks.take F).length=F:=by simp; omega
  have ex:((ks.drop (F+m)).take (T-(F+m))).length=T-(F+m):=by simp; omega
  unfold ov;rw [e,aO,fU,et];unfold kfu;by_cases c1:i<F
  ·rw [ae c1,ae (Or.inl c1),aW,ae c1,gd hi,ag hi]
  ·rw [af c1,fU,e];by_cases c2:T<=i
   ·rw [af (by omega),ae (Or.inr c2),bP,show F+(T-F)+(i-F-(T-F))=i by omega,gd hi,ag hi]
   ·rw [ae (by omega),af (by omega),fU,ex];by_cases c3:i+m<T
    ·rw [ae (by omega),ae c3,aW,ae (by omega),bP,show F+m+(i-F)=i+m by omega,gd (by omega),ag (by omega)]
    ·rw [af (by omega),af c3,IL (by omega),nI]
     congr 1
     omega
 ·rw [aS (by rw [uC (by simp; omega)]; exact hi),aS (by simpa using hi)]
theorem Fk {F T m:Nat}(N:Nat) (h1:F+m<=T) (h2:T<=ks.length):ov ks F (List.range' N m++(ks.drop F).take (T-m-F))=(List.range ks.length).map (kfd ks N F T m):=by
 refine bZ fun i=>?_;rcases aQ i ks.length with hi|hi
 ·rw [bK,dC hi,fH];have e:(List.range' N m++(ks.drop F).take (T-m-F)).length=T-F:=by simp; omega
  have et:(ks.take F).length=F:=by simp; omega
  have ex:(List.range' N m).length=m:=by simp
  unfold ov;rw [e,aO,fU,et];unfold kfd;by_cases c1:i<F
  ·rw [ae c1,ae (Or.inl c1),aW,ae c1,gd hi,ag hi]
  ·rw [af c1,fU,e];by_cases c2:T<=i
   ·rw [af (by omega),ae (Or.inr c2),bP,show F+(T-F)+(i-F-(T-F))=i by omega,gd hi,ag hi]
   ·rw [ae (by omega),af (by omega),fU,ex];by_cases c3:i<F+m
    ·rw [ae (by omega),ae c3,IL (by omega),nI]
    ·rw [af (by omega),af c3,aW,ae (by omega),bP,show F+(i-F-m)=i-m by omega,gd (by omega),ag (by omega)]
 ·rw [aS (by rw [uC (by simp; omega)]; exact hi),aS (by simpa using hi)]
theorem G3 (nd:ks.Nodup){N F T m:Nat}(hN:∀k∈ks,k<N) (h1:F+m<=T) (h2:T<=ks.length) (i j:Nat) (hij:i<j) (hj:j<ks.length):kfu ks N F T m i≠kfu ks N F T m j:=by
 have lt:∀i,i<ks.length->ks.getD i 0<N:=fun i hi=>by rw [gd hi]; exact hN _ (aF hi)
 have ne:∀a b,a<b->b<ks.length->ks.getD a 0≠ks.getD b 0:=fun a b hab hb=>Bp nd hb hab;have ne2:∀a b,b<a->a<ks.length->ks.getD a 0≠ks.getD b 0:=fun a b hab ha=>(Bp nd ha hab).symm;unfold kfu
 repeat' split
 all_goals first
  | exact ne _ _ (by omega) (by omega)
  | exact ne2 _ _ (by omega) (by omega)
  | (have:=lt i (by omega); omega)
  | (have:=lt j (by omega); omega)
  | (have:=lt (i+m) (by omega); omega)
  | (have:=lt (j+m) (by omega); omega)
  | omega
theorem G5 (nd:ks.Nodup){N F T m:Nat}(hN:∀k∈ks,k<N) (h1:F+m<=T) (h2:T<=ks.length) (i j:Nat) (hij:i<j) (hj:j<ks.length):kfd ks N F T m i≠kfd ks N F T m j:=by
 have lt:∀i,i<ks.length->ks.getD i 0<N:=fun i hi=>by rw [gd hi]; exact hN _ (aF hi)
 have ne:∀a b,a<b->b<ks.length->ks.getD a 0≠ks.getD b 0:=fun a b hab hb=>Bp nd hb hab;have ne2:∀a b,b<a->a<ks.length->ks.getD a 0≠ks.getD b 0:=fun a b hab ha=>(Bp nd ha hab).symm;unfold kfd
 repeat' split
 all_goals first
  | exact ne _ _ (by omega) (by omega)
  | exact ne2 _ _ (by omega) (by omega)
  | (have:=lt i (by omega); omega)
  | (have:=lt j (by omega); omega)
  | (have:=lt (i-m) (by omega); omega)
  | (have:=lt (j-m) (by omega); omega)
  | omega
theorem yh {h:Nat}{f:Nat->Nat}{B:Nat->aj}(hf:∀i j,i<j->j<h->f i≠f j) (hB:∀i,i<h->ln s (f i)=B i){j:Nat}(hj:j<h) (hk:Rw s W (f j)) (i:Nat) (hi:i<h):
  ln (off s (f j)) (f i)=if i=j then ⟨(B j).Cells,false⟩ else B i:=by
 rw [GX hk,hB j hj];by_cases e:i=j
 ·subst e; rw [ae rfl,ae rfl]
 ·rw [af,af e,hB i hi];rcases Jf e with h|h
  ·exact hf i j h hj
  ·exact (hf j i h hi).symm
theorem zn (s:Sto) (ks:List Nat) (F:Nat):(offa s ks F).rst=s.rst:=by
 unfold offa;split <;> rfl
theorem lY {h i:Nat}{f:Nat->Nat}(hi:i<h):((List.range h).map f).getD i 0=f i:=by
 rw [gd (by simpa using hi)];simp
structure Rf (s s':Sto) (g:Nat) (ks:List Nat) (g':Nat) (ks':List Nat):Prop where
 gl:s.grid_Grid.length<=s'.grid_Grid.length
 rl:s.row_Row.length<=s'.row_Row.length
 gr:∀j,j<s.grid_Grid.length->j≠g->s'.grid_Grid[j]? = s.grid_Grid[j]?
 rw:∀j,j<s.row_Row.length->j∉ks->s'.row_Row[j]? = s.row_Row[j]?
 ng:g'=g\/s.grid_Grid.length<=g'
 nr:∀r∈ks',r∈ks\/s.row_Row.length<=r
theorem Rf.self (s:Sto) (g:Nat) (ks:List Nat):Rf s s g ks g ks:=⟨az _,az _,fun _ _ _=>rfl,fun _ _ _=>rfl,.inl rfl,fun _ h=> .inl h⟩
theorem Rf.rowoff {s':Sto}{ks':List Nat}(h:Rf s s' g ks g ks'){i:Nat}(hi:i∈ks'):Rf s (off s' i) g ks g ks':=by
 have e:(off s' i).row_Row=s'.row_Row.set i ⟨(ln s' i).Cells,false⟩:=rfl;refine ⟨h.gl,by rw [e,cx]; exact h.rl,h.gr,fun j h1 h2=>?_,h.ng,h.nr⟩;rw [e,bh ?_]
 ·exact h.rw j h1 h2
 ·rintro rfl;rcases h.nr _ hi with q|q
  ·exact h2 q
  ·omega
theorem Rf.aboff {s':Sto}{ks':List Nat}(h:Rf s s' g ks g ks') (F:Nat) (hF:F<=ks'.length):Rf s (offa s' ks' F) g ks g ks':=by
 unfold Go.Proofs.YtclmdpamofdoiaaGreatDoor.offa;split
 ·exact h
 ·refine h.rowoff ?_;rw [gd (by omega)];exact aF _
theorem Rf.lay (xs:List br) (x:cm){ks':List Nat}(h:∀r∈ks',r∈ks\/s.row_Row.length<=r):Rf s ((s.addr xs).sg g x) g ks g ks':=by
 have e:((s.addr xs).sg g x).row_Row=s.row_Row++xs:=rfl;have e2:((s.addr xs).sg g x).grid_Grid=s.grid_Grid.set g x:=rfl;exact ⟨by rw [e2,cx]; exact az _,by rw [e,aA]; omega,fun j _ hj=>by rw [e2,bh (sQ hj)],fun j hj _=>by rw [e,aL hj],.inl rfl,h⟩
theorem Fm {N F T m:Nat}(hm:T<=ks.length){r:Nat}(hr:r∈(List.range ks.length).map (kfu ks N F T m)):r∈ks\/N<=r:=by
 obtain ⟨i,hi,rfl⟩:=List.mem_map.1 hr;have hi:=List.mem_range.1 hi;unfold kfu;split
 ·rw [gd hi]; exact .inl (aF _)
 ·split
  ·rw [gd (by omega)]; exact .inl (aF _)
  ·exact .inr (by omega)
theorem Fo {N F T m:Nat}(hm:T<=ks.length){r:Nat}(hr:r∈(List.range ks.length).map (kfd ks N F T m)):r∈ks\/N<=r:=by
 obtain ⟨i,hi,rfl⟩:=List.mem_map.1 hr;have hi:=List.mem_range.1 hi;unfold kfd;split
 ·rw [gd hi]; exact .inl (aF _)
 ·split
  ·exact .inr (by omega)
  ·rw [gd (by omega)]; exact .inl (aF _)
theorem Ai (h:Gw s g ks W) (nd:ks.Nodup) (a b n:Int):∃s' ks',kz s (some g) a b n=some s'/\(Gw s' g ks' W/\ks'.Nodup/\ks'.length=ks.length/\
  ks'.map (ln s')=mv W (ks.map (ln s)) (cl a ks.length) (cl b ks.length) n true)/\s'.rst=s.rst/\Rf s s' g ks g ks':=by
 have hF:=nC a ks.length;have hT:=nC b ks.length;have hh:=h.h2;have hN:∀k∈ks,k<s.row_Row.length:=fun k hk=>(h.r k hk).lt;unfold kz;rw [xt h];simp only [bsm];generalize cl a ks.length=F at *;generalize cl b ks.length=T at *;unfold mv;by_cases hc:F<T/\0<n
 ·obtain ⟨m,hm⟩:∃m:Nat,min n ((T:Int)-(F:Int))=(m:Int):=⟨(min n ((T:Int)-(F:Int))).toNat,by omega⟩;have hm2:F+m<=T/\1<=m:=by omega
  rw [ae (by simp; omega),ae hc,hm,aG (by omega),show ((F:Int)+(m:Int))=((F+m:Nat):Int) by simp,uY h hm2.1 hT];simp only [bsm];rw [sH h (by omega)];simp only [bsm];rw [cU (by simp; omega),<-bU];simp only [bsm];have h1:=h.addr (xs:=List.replicate m (bk W));have hlen:((ks.drop (F+m)).take (T-(F+m))++List.range' s.row_Row.length m).length=T-F:=by simp; omega
  obtain ⟨h3,h4⟩:=vT h1 (F:=F) (p:=(ks.drop (F+m)).take (T-(F+m))++List.range' s.row_Row.length m) (by rw [hlen]; omega) (fun k hk=>by
   rcases List.mem_append.1 hk with hk|hk
   ·exact h1.r k (fS (du hk))
   ·rw [Af] at hk;have:=uk (s:=s) (xs:=List.replicate m (bk W)) (i:=k-s.row_Row.length) (by simp; omega);rw [show s.row_Row.length+(k-s.row_Row.length)=k by omega,jt] at this;exact ⟨_,this,uq W,by simp [bk]⟩) ⟨(F:Int),(T:Int),(m:Int)⟩ rfl
  rw [h3];rw [Io s.row_Row.length hm2.1 hT] at h4|-;have ne:=G3 nd (N:=s.row_Row.length) (F:=F) (T:=T) (m:=m) hN hm2.1 hT;have hB:∀i,i<ks.length->ln ((s.addr (List.replicate m (bk W))).sg g ⟨((List.range ks.length).map (kfu ks s.row_Row.length F T m)).map some⟩) (kfu ks s.row_Row.length F T m i)=mvb W (ks.map (ln s)) F T m true i:=by
   intro i hi;rw [zt];have old:∀j,j<ks.length->ln (s.addr (List.replicate m (bk W))) (ks.getD j 0)=(ks.map (ln s)).getD j dl:=fun j hj=>by
    rw [gdl (by simpa using hj),gd hj,wj (hN _ (aF hj)),ek]
   unfold kfu mvb;by_cases c1:i<F\/T<=i
   ·rw [ae c1,af (show ¬(F<=i/\i<T) by omega),old i hi]
   ·rw [af c1,ae (show F<=i/\i<T by omega),ae rfl];by_cases c2:i+m<T
    ·rw [ae c2,ae c2,old _ (by omega)]
    ·rw [af c2,af c2,DO (by simp; omega),jt];rfl
  refine ⟨_,(List.range ks.length).map (kfu ks s.row_Row.length F T m),rfl,⟨?_,DM ne,by simp,?_⟩,zn _ _ _,(Rf.lay _ _ fun r hr=>Fm hT hr).aboff F (by simp; omega)⟩
  ·unfold offa;split
   ·exact h4
   ·refine h4.off ?_;rw [lY (by omega)];exact h4.r _ (List.mem_map.2 ⟨F-1,List.mem_range.2 (by omega),rfl⟩)
  ·rw [dq,HF];refine dB fun i hi=>?_;have hi:=List.mem_range.1 hi;simp only [Function.comp,ce];unfold offa mvl;by_cases h0:F=0
   ·rw [ae h0,af (by simp; omega),hB i hi]
   ·rw [af h0,lY (by omega),yh ne hB (by omega) (h4.r _ (List.mem_map.2 ⟨F-1,List.mem_range.2 (by omega),rfl⟩)) i hi];by_cases e:i=F-1
    ·rw [ae e,ae (by omega),e]
    ·rw [af e,af (by simp; omega)]
 ·rw [af (by simp; omega),af hc];exact ⟨s,ks,rfl,⟨h,nd,rfl,rfl⟩,rfl,Rf.self _ _ _⟩
theorem zI (h:Gw s g ks W) (nd:ks.Nodup) (a b n:Int):∃s' ks',ki s (some g) a b n=some s'/\(Gw s' g ks' W/\ks'.Nodup/\ks'.length=ks.length/\
  ks'.map (ln s')=mv W (ks.map (ln s)) (cl a ks.length) (cl b ks.length) n false)/\s'.rst=s.rst/\Rf s s' g ks g ks':=by
 have hF:=nC a ks.length;have hT:=nC b ks.length;have hh:=h.h2;have hN:∀k∈ks,k<s.row_Row.length:=fun k hk=>(h.r k hk).lt;unfold ki;rw [xt h];simp only [bsm];generalize cl a ks.length=F at *;generalize cl b ks.length=T at *;unfold mv;by_cases hc:F<T/\0<n
 ·obtain ⟨m,hm⟩:∃m:Nat,min n ((T:Int)-(F:Int))=(m:Int):=⟨(min n ((T:Int)-(F:Int))).toNat,by omega⟩;have hm2:F+m<=T/\1<=m:=by omega
  have h1:=h.addr (xs:=List.replicate m (bk W));rw [ae (by simp; omega),ae hc,hm,sH h (by omega)];simp only [bsm];rw [aG (by omega),show ((T:Int)-(m:Int))=((T-m:Nat):Int) by omega,uY h1 (by omega) (by omega)];simp only [bsm];rw [cU (by simp; omega),<-bU];simp only [bsm];have hlen:(List.range' s.row_Row.length m++(ks.drop F).take (T-m-F)).length=T-F:=by simp; omega
  obtain ⟨h3,h4⟩:=vT h1 (F:=F) (p:=List.range' s.row_Row.length m++(ks.drop F).take (T-m-F)) (by rw [hlen]; omega) (fun k hk=>by
   rcases List.mem_append.1 hk with hk|hk
   ·rw [Af] at hk;have:=uk (s:=s) (xs:=List.replicate m (bk W)) (i:=k-s.row_Row.length) (by simp; omega);rw [show s.row_Row.length+(k-s.row_Row.length)=k by omega,jt] at this;exact ⟨_,this,uq W,by simp [bk]⟩
   ·exact h1.r k (fS (du hk))) ⟨(F:Int),(T:Int),(m:Int)⟩ rfl
  rw [h3];rw [Fk s.row_Row.length hm2.1 hT] at h4|-;have ne:=G5 nd (N:=s.row_Row.length) (F:=F) (T:=T) (m:=m) hN hm2.1 hT;have hB:∀i,i<ks.length->ln ((s.addr (List.replicate m (bk W))).sg g ⟨((List.range ks.length).map (kfd ks s.row_Row.length F T m)).map some⟩) (kfd ks s.row_Row.length F T m i)=mvb W (ks.map (ln s)) F T m false i:=by
   intro i hi;rw [zt];have old:∀j,j<ks.length->ln (s.addr (List.replicate m (bk W))) (ks.getD j 0)=(ks.map (ln s)).getD j dl:=fun j hj=>by
    rw [gdl (by simpa using hj),gd hj,wj (hN _ (aF hj)),ek]
   unfold kfd mvb;by_cases c1:i<F\/T<=i
   ·rw [ae c1,af (show ¬(F<=i/\i<T) by omega),old i hi]
   ·rw [af c1,ae (show F<=i/\i<T by omega),af (show ¬(false=true) by simp)];by_cases c2:i<F+m
    ·rw [ae c2,af (show ¬(F+m<=i) by omega),DO (by simp; omega),jt];rfl
    ·rw [af c2,ae (show F+m<=i by omega),old _ (by omega)]
  have hmem:∀j,j<ks.length->kfd ks s.row_Row.length F T m j∈(List.range ks.length).map (kfd ks s.row_Row.length F T m):=fun j hj=>List.mem_map.2 ⟨j,List.mem_range.2 hj,rfl⟩;have h5:Gw (offa ((s.addr (List.replicate m (bk W))).sg g ⟨((List.range ks.length).map (kfd ks s.row_Row.length F T m)).map some⟩) ((List.range ks.length).map (kfd ks s.row_Row.length F T m)) F) g ((List.range ks.length).map (kfd ks s.row_Row.length F T m)) W:=by
   unfold offa;split
   ·exact h4
   ·refine h4.off ?_;rw [lY (by omega)];exact h4.r _ (hmem _ (by omega))
  have hC:∀i,i<ks.length->ln (offa ((s.addr (List.replicate m (bk W))).sg g ⟨((List.range ks.length).map (kfd ks s.row_Row.length F T m)).map some⟩) ((List.range ks.length).map (kfd ks s.row_Row.length F T m)) F) (kfd ks s.row_Row.length F T m i)=
    if i+1=F then ⟨(mvb W (ks.map (ln s)) F T m false i).Cells,false⟩ else mvb W (ks.map (ln s)) F T m false i:=by
   intro i hi;unfold offa;by_cases h0:F=0
   ·rw [ae h0,af (by omega),hB i hi]
   ·rw [af h0,lY (by omega),yh ne hB (by omega) (h4.r _ (hmem _ (by omega))) i hi];by_cases e:i=F-1
    ·rw [ae e,ae (by omega),e]
    ·rw [af e,af (by omega)]
  have hlt:T-1<((List.range ks.length).map (kfd ks s.row_Row.length F T m)).length:=by simp; omega
  simp only [bsm];rw [aG (by omega),show ((T:Int)-1)=((T-1:Nat):Int) by omega,ft h5 hlt];simp only [bsm];rw [zC (h5.at hlt)];simp only [bsm,ek,yJ];refine ⟨_,(List.range ks.length).map (kfd ks s.row_Row.length F T m),rfl,⟨h5.off (h5.r _ (hmem _ (by omega))),DM ne,by simp,?_⟩,zn _ _ _,((Rf.lay _ _ fun r hr=>Fo hT hr).aboff F (by simp; omega)).rowoff (hmem _ (by omega))⟩;rw [dq,HF];refine dB fun i hi=>?_;have hi:=List.mem_range.1 hi;simp only [Function.comp,ce];rw [yh ne hC (by omega) (h5.r _ (hmem _ (by omega))) i hi];unfold mvl;by_cases e:i=T-1
  ·rw [ae e,af (show ¬(T-1+1=F) by omega),ae (show i+1=F\/(false=false/\i+1=T) from Or.inr ⟨rfl,by omega⟩),e]
  ·rw [af e];by_cases e2:i+1=F
   ·rw [ae e2,ae (Or.inl e2)]
   ·rw [af e2,af (show ¬(i+1=F\/(false=false/\i+1=T)) by simp; omega)]
 ·rw [af (by simp; omega),af hc];exact ⟨s,ks,rfl,⟨h,nd,rfl,rfl⟩,rfl,Rf.self _ _ _⟩
theorem qX {L:List aj}(hl:L.length<=1024) (hW:W<=1024) (hL:∀x∈L,x.Cells.length=W) (a b n:Int) (up:Bool):
  dS L a b n up=some (mv W L (cl a L.length) (cl b L.length) n up):=by
 have hF:=nC a L.length;have hT:=nC b L.length;unfold dS;simp only [icl,bD,bsm];generalize cl a L.length=F at *;generalize cl b L.length=T at *;unfold mv;by_cases hc:F<T/\0<n
 ·obtain ⟨m,hm⟩:∃m:Nat,min n ((T:Int)-(F:Int))=(m:Int):=⟨(min n ((T:Int)-(F:Int))).toNat,by omega⟩;have hm2:F+m<=T/\1<=m:=by omega
  rw [af (by rw [aD,an,an]; omega),ae hc,aG (by omega),dF,hm,ce];obtain ⟨t,h1,h2⟩:=ep (σ:=(List aj)×Int) (τ:=List aj) (n:=L.length) (fuel:=((L.length:Int)-0).toNat+1) (s:=(([]:List aj),0))
   (fun i q=>q=((List.range i).map (mvl W L F T m up),(i:Int))) (fun t=>t=(List.range L.length).map (mvl W L F T m up))
   (step:=fun s_41=>
 if (decide (s_41.2<(L.length:Int)))=true then
 (idx L s_41.2).bind fun x_48=>
 ((bT (decide (s_41.2>=(F:Int))) (some (decide (s_41.2<(T:Int))))).bind fun d_57=>
 if d_57=true then
 (if (!up)=true then
 (some ((w64 (s_41.2-(m:Int)))):Option (Int))
 else
 (some ((w64 (s_41.2+(m:Int)))):Option (Int))).bind fun z_68=>
 (idx L s_41.2).bind fun x_79=>
 (rep (x_79.Cells.length:Int) (⟨0,([]:List Int)⟩:ab)).bind fun x_83=>
 (bT (decide (z_68>=(F:Int))) (some (decide (z_68<(T:Int))))).bind fun d_90=>
 if d_90=true then
 (idx L z_68).bind fun x_98=>
 (some (x_98.Cells,x_98.Wrap):Option ((List ab)×Bool))
 else
 (some (x_83,false):Option ((List ab)×Bool))
 else
 (some (x_48.Cells,x_48.Wrap):Option ((List ab)×Bool))).bind fun z_53=>
 ((orE ((w64 (s_41.2+1))==(F:Int)) ((bT (!up) (some ((w64 (s_41.2+1))==(T:Int)))).bind fun d_111=>
 some d_111)).bind fun d_107=>
 if d_107=true then
 (some (false):Option (Bool))
 else
 (some (z_53.2):Option (Bool))).bind fun z_102=>
 (app s_41.1 ([(⟨z_53.1,z_102⟩:aj)]:List aj)).bind fun x_124=>
 some (.inl (x_124,(w64 (s_41.2+1))))
 else
 some (.inr (s_41.1)))
   (fun i q hi e=>by
    subst e;refine .inl ⟨_,?_,rfl⟩;have e5:w64 ((i:Int)+1)=((i+1:Nat):Int):=by rw [aG (by omega)]; simp
    have hd:decide ((i:Int)<(L.length:Int))=true:=by simp; exact hi
    have hlw:=hL _ (aF hi);simp only [hd,bz,bp hi,bsm,e5,bi];have hz:(if (decide ((i:Int)>=(F:Int)) && decide ((i:Int)<(T:Int)))=true then
      (if (!up)=true then (some ((w64 ((i:Int)-(m:Int)))):Option (Int)) else (some ((w64 ((i:Int)+(m:Int)))):Option (Int))).bind fun z_68=>
      (rep (L[i].Cells.length:Int) (⟨0,([]:List Int)⟩:ab)).bind fun x_83=>
      if (decide (z_68>=(F:Int)) && decide (z_68<(T:Int)))=true then
      (idx L z_68).bind fun x_98=>(some (x_98.Cells,x_98.Wrap):Option ((List ab)×Bool))
      else (some (x_83,false):Option ((List ab)×Bool))
      else (some (L[i].Cells,L[i].Wrap):Option ((List ab)×Bool)))=some ((mvb W L F T m up i).Cells,(mvb W L F T m up i).Wrap):=by
     unfold mvb;by_cases c1:F<=i/\i<T
     ·rw [ae (by simp; omega),ae c1]
      cases up with
      | true=>
       rw [af (by simp),ae rfl];simp only [bsm];rw [oF _ (by omega),aG (by omega),show ((i:Int)+(m:Int))=((i+m:Nat):Int) by simp];simp only [bsm];by_cases c2:i+m<T
       ·rw [ae (by simp; omega),ae c2,bp (show i+m<L.length by omega),gdl (by omega)];rfl
       ·rw [af (by simp; omega),af c2,ce,hlw];rfl
      | false=>
       rw [ae (by simp),af (by simp)];simp only [bsm];rw [oF _ (by omega),aG (by omega)];simp only [bsm];by_cases c2:F+m<=i
       ·rw [show ((i:Int)-(m:Int))=((i-m:Nat):Int) by omega,ae (by simp; omega),ae c2,bp (show i-m<L.length by omega),gdl (by omega)];rfl
       ·rw [af (by simp; omega),af c2,ce,hlw];rfl
     ·rw [af (by simp; omega),af c1,gdl hi]
    rw [hz];simp only [bsm];have hy:(orE (((i+1:Nat):Int)==(F:Int)) (some (!up && (((i+1:Nat):Int)==(T:Int)))))=some (decide (i+1=F\/(up=false/\i+1=T))):=by
     rw [bD]
     congr 1
     rw [cu];simp only [aD,aT,av,dI,an,Int.ofNat_inj]
    rw [hy];simp only [bsm];have hx:∀y:Bool,(if decide (i+1=F\/(up=false/\i+1=T))=true then (some false:Option Bool) else some y)=some (if i+1=F\/(up=false/\i+1=T) then false else y):=fun y=>by
     by_cases c:i+1=F\/(up=false/\i+1=T)
     ·rw [ae (by simpa using c),ae c]
     ·rw [af (by simpa using c),af c]
    rw [hx];simp only [bsm];rw [cU (by simp; omega)];simp only [bsm];have hz3:(⟨(mvb W L F T m up i).Cells,if i+1=F\/(up=false/\i+1=T) then false else (mvb W L F T m up i).Wrap⟩:aj)=mvl W L F T m up i:=by
     unfold mvl;split <;> rfl
    rw [hz3,qe,bU];rfl)
   (fun q e=>⟨_,by subst e; simp,rfl⟩)
   (by simp) (by omega)
  subst h2;rw [h1];rfl
 ·rw [ae (by rw [aD,an,an]; omega),af hc]
end Go.Proofs.YtclmdpamofdoiaaGreatDoor
namespace Go.Proofs.YtclmdpamofdoiaaGreatDoor
open Go Go.Lt
variable {s:Sto}{k:Nat}{l p:List ab}{w:Bool}
theorem yX (p:List Int) (hp:p.length<=1000000):jE p=some (p.map gi):=by
 unfold jE;rw [oF _ (by omega),oF _ (by omega)];simp only [bsm];obtain ⟨t,h1,h2⟩:=ep (σ:=(List Int)×Int) (τ:=List Int) (n:=p.length) (fuel:=((p.length:Int)-0).toNat+1) (s:=(List.replicate (0:Int).toNat 0,0))
  (fun i q=>q=((p.take i).map gi,(i:Int))) (fun t=>t=p.map gi)
  (step:=fun s_12=>
 if (decide (s_12.2<(p.length:Int)))=true then
 (idx p s_12.2).bind fun x_15=>
 ((fu x_15).bind fun x_21=>
 if (!x_21)=true then
 (some (65533):Option (Int))
 else
 (some (x_15):Option (Int))).bind fun z_19=>
 (app s_12.1 ([z_19]:List Int)).bind fun x_29=>
 some (.inl (x_29,(w64 (s_12.2+1))))
 else
 some (.inr (s_12.1)))
  (fun i q hi e=>by
   subst e;refine .inl ⟨_,?_,rfl⟩;have e5:w64 ((i:Int)+1)=((i+1:Nat):Int):=by rw [aG (by omega)]; simp
   have hd:decide ((i:Int)<(p.length:Int))=true:=by simp; exact hi
   simp only [hd,bz,bp hi,bsm,uu,e5];have hz:(if (!vld p[i])=true then (some (65533):Option Int) else some p[i])=some (gi p[i]):=by
    unfold gi
    cases vld p[i] <;> rfl
   rw [hz];simp only [bsm];rw [cU (by simp; omega)];simp only [bsm];rw [ax hi,bU];rfl)
  (fun q e=>⟨_,by subst e; simp,rfl⟩)
  rfl (by omega)
 subst h2;rw [h1];rfl
theorem BI (wide:Int) (t:List Int) (ht:t.length<=9223372036854775807):po wide t=some (eu wide (fx t)):=by
 unfold po;have hz:(if (decide (wide>=2))=true then (app ([(⟨0,([]:List Int)⟩:ab)]:List ab) ([(⟨0,([]:List Int)⟩:ab)]:List ab)).bind fun x_14=>(some (x_14):Option ((List ab))) else
   (some (([(⟨0,([]:List Int)⟩:ab)]:List ab)):Option ((List ab))))=some (if 2<=wide then [bl,bl] else [bl]):=by
  by_cases h:2<=wide
  ·rw [ae (by simpa using h),ae h,cU (by simp)];rfl
  ·rw [af (by simpa using h),af h];rfl
 rw [hz];simp only [bsm];unfold eu;by_cases h0:t= []
 ·subst h0;rw [ae (show ((([]:List Int).length:Int)==0)=true from rfl),ae (show fx []= [] from rfl)];by_cases h:2<=wide
  ·rw [ae h,ae (show wide>1 by omega)]
  ·rw [af h,af (show ¬(wide>1) by omega)]
 ·have hl:0<t.length:=List.length_pos_iff.2 h0;have hf:fx t≠ []:=by
   have:=Bw t;intro h;rw [h,aP] at this;omega
  rw [af (by rw [aT]; omega),af hf,dF,show (min (t.length:Int) 16)=((min t.length 16:Nat):Int) by omega,show (0:Int)=((0:Nat):Int) from rfl,oE (cE _) (Nat.min_le_left _ _)];simp only [bsm];rw [yX _ (by simp; omega)];have ef:((t.drop 0).take (min t.length 16-0)).map gi=fx t:=by
   unfold fx;rw [jL,og]
   congr 1
   rcases Nat.le_total t.length 16 with h|h
   ·rw [cH h,aC (az _),aC h]
   ·rw [Nat.min_eq_right h]
  rw [ef];by_cases h:2<=wide
  ·rw [ae h,ae (show wide>1 by omega),show decide (wide>=2)=true by simpa using h];rfl
  ·rw [af h,af (show ¬(wide>1) by omega),show decide (wide>=2)=false by simpa using h];rfl
theorem BR (wide:Int) (t:List Int):1<=(eu wide t).length/\(eu wide t).length<=2:=by
 unfold eu
 repeat' split
 all_goals simp
theorem Am (wide:Int) (t:List Int):Snd (eu wide (fx t)):=BU wide (Hg t) (Hi t)
theorem Iy {t:List Int}(h:∀x∈t,vld x=true) (hl:t.length<=16):fx t=t:=by
 unfold fx;rw [aC hl]
 conv=>rhs; rw [<-List.map_id t]
 refine dB fun x hx=>?_;unfold gi;rw [ae (h x hx)];rfl
theorem DN (h:s.row_Row[k]? = some ⟨l,w⟩) (hs:Snd l) (hl:l.length<=1024){a:Nat}(wide:Int){t:List Int}(ht:t.length<=9223372036854775807) (ha:a+(eu wide (fx t)).length<=l.length):
  lJ s (some k) a wide t=some (s.sr k ⟨pl l a (eu wide (fx t)),pw l w a (eu wide (fx t)).length⟩,Er.nil):=by
 unfold lJ;rw [BI wide t ht];simp only [bsm];rw [oT h hs hl (Am wide t) (BR wide _).1 ha];rfl
def mat (l:List ab) (i:Int):Option Nat:=if 0<=i/\i<l.length then (if kd l i.toNat=0 then none else if kd l i.toNat=3 then some (i.toNat-1) else some i.toNat) else none
theorem ya (h:s.row_Row[k]? = some ⟨l,w⟩){i:Int}(hi:¬(0<=i/\i<l.length)):gA s (some k) i=some (bl,false):=by
 unfold gA;rw [jA h];simp only [bsm,bD];rw [ae (by simp; omega)];rfl
theorem G6 (hs:Snd l) (j:Nat):kd l j=0\/kd l j=1\/kd l j=2\/kd l j=3:=by
 rcases aQ j l.length with h|h
 ·have:=(hs j h).1;unfold rgt at this;rw [lc h];split at this
  ·omega
  ·simp only [av,aD,an] at this;omega
 ·exact .inl (mS h)
theorem Fl (h:s.row_Row[k]? = some ⟨l,w⟩) (hs:Snd l) (i:Int) (hi: -9223372036854775808<=i/\i<=9223372036854775807):
  pb s (some k) i=some (match mat l i with|some j=>((j:Int),⟨kd l j,(l.getD j bl).Text⟩,true)|none=>(0,⟨0,[]⟩,false)):=by
 unfold pb mat;by_cases hin:0<=i/\i<l.length
 ·obtain ⟨j,rfl⟩:∃j:Nat,i=(j:Int):=⟨i.toNat,by omega⟩;have hj:j<l.length:=by omega
  rw [ae hin,ze h hj hs.sht,ce];have hkd:=lc hj;have hgd:l.getD j bl=l[j]:=by rw [ao,ag hj]; rfl
  simp only [bsm,ip];by_cases h3:kd l j=3
  ·obtain ⟨p1,p2⟩:=hs.three h3;have hj2:j-1<l.length:=by omega
   have hkd2:=lc hj2;rw [ae (by rw [aT,<-hkd]; exact h3),aG (by omega),show ((j:Int)-1)=((j-1:Nat):Int) by omega,ze h hj2 hs.sht];simp only [bsm,ip];rw [af (show ¬kd l j=0 by omega),ae h3,af (by rw [aT,<-hkd2]; omega),ae (by rw [aT,<-hkd2]; exact p2)];simp only;rw [p2,ao,ag hj2];rfl
  ·rw [af (by rw [aT,<-hkd]; exact h3)];simp only [bsm,ip];rcases G6 hs j with h0|h1|h2|h4
   ·rw [af (by rw [aT,<-hkd]; omega),af (by rw [aT,<-hkd]; omega),ae h0]
   ·rw [ae (by rw [aT,<-hkd]; exact h1),af (by omega),af h3];simp only;rw [h1,hgd]
   ·rw [af (by rw [aT,<-hkd]; omega),ae (by rw [aT,<-hkd]; exact h2),af (by omega),af h3];simp only;rw [h2,hgd]
   ·exact absurd h4 h3
 ·rw [af hin,ya h hin];rfl
theorem DF {a j:Nat}(h:a<=j/\j<a+p.length):pc l a p j=p.getD (j-a) bl:=by unfold pc; rw [ae h]
theorem GP {a j:Nat}(h:¬(a<=j/\j<a+p.length)):pc l a p j=if tch l a p.length j=true then bl else l.getD j bl:=by unfold pc; rw [af h]
end Go.Proofs.YtclmdpamofdoiaaGreatDoor
namespace Go.Proofs.YtclmdpamofdoiaaGreatDoor
open Go Go.Lt
variable {s C:Sto}{g k W:Nat}{ks:List Nat}{l p:List ab}{w:Bool}{q:aa}
def Sto.sp (s:Sto) (k:Nat) (x:bv):Sto:={ s with place_Pen:=s.place_Pen.set k x}
theorem jj {x:bv}(h:k<s.place_Pen.length):s.set_place_Pen k x=some (s.sp k x):=by
 simp only [Sto.set_place_Pen,h,bz];rfl
theorem xS {x:bv}(h:k<s.place_Pen.length):(s.sp k x).place_Pen[k]? = some x:=by simp [Sto.sp,h]
theorem xp (s:Sto) (k:Nat) (x y:bv):(s.sp k x).sp k y=s.sp k y:=by simp [Sto.sp]
theorem Gw.sp (h:Gw s g ks W) (k:Nat) (x:bv):Gw (s.sp k x) g ks W:=⟨h.g,h.r,h.h1,h.h2,h.w1,h.w2⟩
def ownG (C:Sto) (k g:Nat):Prop:=∃x,C.place_Pen[k]? = some x/\x.G=some g
def ownR (C:Sto) (k r:Nat):Prop:=∃g y,ownG C k g/\C.grid_Grid[g]? = some y/\some r∈y.rows
structure Fr (C s:Sto) (k g:Nat) (ks:List Nat):Prop where
 pl:C.place_Pen.length<=s.place_Pen.length
 gl:C.grid_Grid.length<=s.grid_Grid.length
 rl:C.row_Row.length<=s.row_Row.length
 pn:∀j,j<C.place_Pen.length->j≠k->s.place_Pen[j]? = C.place_Pen[j]?
 gr:∀j,j<C.grid_Grid.length->¬ownG C k j->s.grid_Grid[j]? = C.grid_Grid[j]?
 rw:∀j,j<C.row_Row.length->¬ownR C k j->s.row_Row[j]? = C.row_Row[j]?
 ng:ownG C k g\/C.grid_Grid.length<=g
 nr:∀r∈ks,ownR C k r\/C.row_Row.length<=r
theorem Fr.self {p:bv}(h:s.place_Pen[k]? = some p) (hg:p.G=some g) (hk:s.grid_Grid[g]? = some ⟨ks.map some⟩):Fr s s k g ks:=
 ⟨az _,az _,az _,fun _ _ _=>rfl,fun _ _ _=>rfl,fun _ _ _=>rfl,.inl ⟨p,h,hg⟩,fun r hr=> .inl ⟨g,_,⟨p,h,hg⟩,hk,List.mem_map.2 ⟨r,hr,rfl⟩⟩⟩
theorem Fr.new (h1:C.place_Pen.length<=s.place_Pen.length) (h2:C.grid_Grid.length<=s.grid_Grid.length) (h3:C.row_Row.length<=s.row_Row.length) (h4:∀j,j<C.place_Pen.length->s.place_Pen[j]? = C.place_Pen[j]?)
  (h5:∀j,j<C.grid_Grid.length->s.grid_Grid[j]? = C.grid_Grid[j]?) (h6:∀j,j<C.row_Row.length->s.row_Row[j]? = C.row_Row[j]?) (h7:C.grid_Grid.length<=g) (h8:∀r∈ks,C.row_Row.length<=r):Fr C s k g ks:=
 ⟨h1,h2,h3,fun j a _=>h4 j a,fun j a _=>h5 j a,fun j a _=>h6 j a,.inr h7,fun r hr=> .inr (h8 r hr)⟩
theorem Fr.step {s':Sto}{g':Nat}{ks':List Nat}(h:Fr C s k g ks) (f:Rf s s' g ks g' ks') (hp:s'.place_Pen=s.place_Pen):Fr C s' k g' ks':=by
 refine ⟨by rw [hp]; exact h.pl,dt h.gl f.gl,dt h.rl f.rl,fun j a b=>by rw [hp]; exact h.pn j a b,fun j a b=>?_,fun j a b=>?_,?_,fun r hr=>?_⟩
 ·have:=h.gl;rw [f.gr j (by omega) ?_,h.gr j a b];rintro rfl;rcases h.ng with q|q
  ·exact b q
  ·omega
 ·have:=h.rl;rw [f.rw j (by omega) ?_,h.rw j a b];intro hj;rcases h.nr j hj with q|q
  ·exact b q
  ·omega
 ·rcases f.ng with rfl|q
  ·exact h.ng
  ·exact .inr (dt h.gl q)
 ·rcases f.nr r hr with q|q
  ·exact h.nr r q
  ·exact .inr (dt h.rl q)
theorem Fr.sp (h:Fr C s k g ks) (x:bv):Fr C (s.sp k x) k g ks:=
 ⟨by simp only [Sto.sp,cx]; exact h.pl,h.gl,h.rl,fun j a b=>by simp only [Sto.sp]; rw [bh (sQ b)]; exact h.pn j a b,h.gr,h.rw,h.ng,h.nr⟩
theorem Fr.sr (h:Fr C s k g ks){i:Nat}(hi:i∈ks) (r:br):Fr C (s.sr i r) k g ks:=by
 refine h.step (s':=s.sr i r) ⟨az _,by simp [Sto.sr],fun _ _ _=>rfl,fun j _ b=>?_,.inl rfl,fun r hr=> .inl hr⟩ rfl;exact yS (fun e=>b (e▸ hi))
theorem Fr.addp (h:Fr C s k g ks) (x:bv):Fr C (s.add_place_Pen x) k g ks:=
 ⟨by have:=h.pl; simp only [Sto.add_place_Pen,aA]; omega,h.gl,h.rl,fun j a b=>by have:=h.pl; simp only [Sto.add_place_Pen]; rw [aL (by omega)]; exact h.pn j a b,h.gr,h.rw,h.ng,h.nr⟩
structure Rgp (s s':Sto):Prop where
 r:s'.row_Row=s.row_Row
 g:s'.grid_Grid=s.grid_Grid
 p:s'.place_Pen=s.place_Pen
theorem Rgp.self (s:Sto):Rgp s s:=⟨rfl,rfl,rfl⟩
theorem Rgp.symm {s s':Sto}(h:Rgp s s'):Rgp s' s:=⟨h.r.symm,h.g.symm,h.p.symm⟩
theorem Rgp.ownG {s s':Sto}(h:Rgp s s') (k g:Nat):ownG s' k g↔ownG s k g:=by unfold Go.Proofs.YtclmdpamofdoiaaGreatDoor.ownG; rw [h.p]
theorem Rgp.ownR {s s':Sto}(h:Rgp s s') (k r:Nat):ownR s' k r↔ownR s k r:=by unfold Go.Proofs.YtclmdpamofdoiaaGreatDoor.ownR; rw [h.g]; simp only [h.ownG]
theorem Fr.rgp {C' s':Sto}(h:Fr C s k g ks) (hC:Rgp C C') (hs:Rgp s s'):Fr C' s' k g ks:=by
 refine ⟨by rw [hC.p,hs.p]; exact h.pl,by rw [hC.g,hs.g]; exact h.gl,by rw [hC.r,hs.r]; exact h.rl,?_,?_,?_,?_,?_⟩
 ·rw [hC.p,hs.p]; exact h.pn
 ·rw [hC.g,hs.g]; simp only [hC.ownG]; exact h.gr
 ·rw [hC.r,hs.r]; simp only [hC.ownR]; exact h.rw
 ·rw [hC.g,hC.ownG]; exact h.ng
 ·rw [hC.r]; simp only [hC.ownR]; exact h.nr
theorem Fr.trans {B:Sto}{g0:Nat}{ks0:List Nat}(h:Fr B C k g0 ks0) (hg:∀j,ownG C k j->j=g0) (hr:∀j,ownR C k j->j∈ks0) (h':Fr C s k g ks):Fr B s k g ks:=by
 have hl:=h.gl;have hl2:=h.rl;have hl3:=h.pl;refine ⟨dt h.pl h'.pl,dt h.gl h'.gl,dt h.rl h'.rl,fun j a b=>?_,fun j a b=>?_,fun j a b=>?_,?_,fun r hr'=>?_⟩
 ·rw [h'.pn j (by omega) b,h.pn j a b]
 ·rw [h'.gr j (by omega) ?_,h.gr j a b];intro q;obtain rfl:=hg j q;rcases h.ng with q|q
  ·exact b q
  ·omega
 ·rw [h'.rw j (by omega) ?_,h.rw j a b];intro q;rcases h.nr j (hr j q) with q|q
  ·exact b q
  ·omega
 ·rcases h'.ng with q|q
  ·obtain rfl:=hg g q; exact h.ng
  ·exact .inr (by omega)
 ·rcases h'.nr r hr' with q|q
  ·exact h.nr r (hr r q)
  ·exact .inr (by omega)
structure Pv (C s:Sto) (k g_ W:Nat) (q:aa) (ks:List Nat):Prop where
 p:s.place_Pen[k]? = some ⟨some g_,q.At,q.Auto⟩
 g:Gw s g_ ks W
 nd:ks.Nodup
 l:ks.map (ln s)=q.L
 o:s.oth=C.oth
 f:Fr C s k g_ ks
theorem Pv.self (h:Pv C s k g W q ks):Pv s s k g W q ks:=⟨h.p,h.g,h.nd,h.l,rfl,Fr.self h.p rfl h.g.g⟩
theorem Pv.oG (h:Pv C s k g W q ks) (j:Nat) (hj:ownG s k j):j=g:=by
 obtain ⟨x,h1,h2⟩:=hj;rw [h.p] at h1;cases h1;exact (bj h2).symm
theorem Pv.oR (h:Pv C s k g W q ks) (j:Nat) (hj:ownR s k j):j∈ks:=by
 obtain ⟨g',y,h1,h2,h3⟩:=hj;obtain rfl:=h.oG g' h1;rw [h.g.g] at h2;cases h2;obtain ⟨r,h4,h5⟩:=List.mem_map.1 h3;cases h5;exact h4
theorem Pv.len (h:Pv C s k g W q ks):q.L.length=ks.length:=by rw [<-h.l,dq]
theorem Pv.ok (h:Pv C s k g W q ks):∀x∈q.L,Okl W x:=by rw [<-h.l]; exact xa h.g
theorem Pv.at (h:Pv C s k g W q ks){i:Nat}(hi:i<ks.length):q.L[i]'(by rw [h.len]; exact hi)=ln s ks[i]:=by
 have:=h.l;have e:q.L[i]? = (ks.map (ln s))[i]? :=by rw [this]
 rw [ag (by rw [h.len]; exact hi),bK,ag hi] at e;exact bj e
theorem Pv.set (h:Pv C s k g W q ks) (c:ai) (a:Bool):Pv C (s.sp k ⟨some g,c,a⟩) k g W ⟨q.L,c,a⟩ ks:=
 ⟨xS (cR h.p),h.g.sp _ _,h.nd,h.l,h.o,h.f.sp _⟩
theorem Pv.row (h:Pv C s k g W q ks){i:Nat}(hi:i<ks.length){r:br}(hr:Snd r.cells) (hl:r.cells.length=W):Pv C (s.sr ks[i] r) k g W ⟨q.L.set i ⟨r.cells,r.wrap⟩,q.At,q.Auto⟩ ks:=by
 have hlt:=(h.g.at hi).lt;refine ⟨h.p,⟨h.g.g,fun j hj=>?_,h.g.h1,h.g.h2,h.g.w1,h.g.w2⟩,h.nd,?_,h.o,h.f.sr (aF hi) _⟩
 ·by_cases e:ks[i]=j
  ·subst e; exact ⟨r,sV hlt,hr,hl⟩
  ·obtain ⟨r0,h1,h2⟩:=h.g.r j hj;exact ⟨r0,(yS e).trans h1,h2⟩
 ·refine bZ fun j=>?_;rw [bK,lT];rcases aQ j ks.length with hj|hj
  ·rw [ag hj,fH];by_cases e:i=j
   ·subst e;rw [ae rfl,ae (by rw [h.len]; exact hi),nP (sV hlt)]
   ·have hne:ks[i]≠ks[j]:=by
     rcases Jf e with h1|h1
     ·exact List.pairwise_iff_getElem.1 h.nd i j _ _ h1
     ·exact (List.pairwise_iff_getElem.1 h.nd j i _ _ h1).symm
    rw [af e,ag (by rw [h.len]; exact hj),h.at hj];unfold ln;rw [yS hne]
  ·rw [aS hj,af (by omega),aS (by rw [h.len]; exact hj)];rfl
def hc (c:ai) (W h:Nat):ai:=⟨max 0 (min c.Row ((h:Int)-1)),max 0 (min c.Col ((W:Int)-1)),c.Pending && (c.Col==(W:Int)-1)⟩
theorem tX {n:Nat}(h1:1<=n) (h2:n<=1024):ij n=some (n:Int):=by
 unfold ij;rw [fq,dF]
 congr 1
 omega
theorem vY {n:Nat}(h1:1<=n) (h2:n<=1024):ck n=some (n:Int):=by
 unfold ck;rw [af (by simp; omega),af (by simp; omega)]
theorem pu (c:ai){W h:Nat}(w1:1<=W) (w2:W<=1024) (h1:1<=h) (h2:h<=1024):gu c W h=some (hc c W h):=by
 unfold gu lA;rw [tX w1 w2,tX h1 h2];simp only [bsm,bi];rw [aG (by omega),aG (by omega),fq,dF,fq,dF];rfl
theorem vX (n:Int){m:Nat}(h1:1<=m) (h2:m<=1024):em n m=some (max 0 (min n ((m:Int)-1))):=by
 unfold em;rw [aG (by omega)];by_cases a:n<0
 ·rw [ae (by simpa using a)]
  congr 1
  omega
 ·rw [af (by simpa using a)];by_cases b:(m:Int)<=n
  ·rw [ae (by simpa using b)]
   congr 1
   omega
  ·rw [af (by simpa using b)]
   congr 1
   omega
theorem zg (c:ai){W h:Nat}(w1:1<=W) (w2:W<=1024) (h1:1<=h) (h2:h<=1024):fc c W h=some (hc c W h):=by
 unfold fc;rw [vY h1 h2,vY w1 w2];simp only [bsm,bi];rw [vX _ h1 h2,vX _ w1 w2,aG (by omega)];rfl
structure Hd (c:ai) (W h:Nat):Prop where
 rr:0<=c.Row/\c.Row<(h:Int)
 cc:0<=c.Col/\c.Col<(W:Int)
 pp:c.Pending=true->c.Col=(W:Int)-1
theorem tR (c:ai){W h:Nat}(w1:1<=W) (h1:1<=h):Hd (hc c W h) W h:=by
 refine ⟨by simp only [hc]; omega,by simp only [hc]; omega,fun hp=>?_⟩;simp only [hc,av,aT] at hp|-;omega
theorem Is {c:ai}{W h:Nat}(hd:Hd c W h):hc c W h=c:=by
 obtain ⟨h1,h2,h3⟩:=hd;obtain ⟨a,b,d⟩:=c;simp only at h1 h2 h3;unfold hc;simp only [ai.mk.injEq];refine ⟨by omega,by omega,?_⟩
 cases d with
 | false=>rfl
 | true=>rw [h3 rfl]; simp
theorem xy (h:Pv C s k g W q ks):gJ s (some k)=some (s.sp k ⟨some g,hc q.At W ks.length,q.Auto⟩,true):=by
 unfold gJ;simp only [bO,ez,bsm,h.p,ak,ba];rw [jB h.g,eW h.g];simp only [bsm];rw [pu _ h.g.w1 h.g.w2 h.g.h1 h.g.h2];simp only [bsm];rw [jj (cR h.p)];rfl
theorem qW (h:Pv C s k g W q ks):cP q=some (W:Int):=by
 have hl:=h.len;have h1:=h.g.h1;have h0:idx q.L (0:Int)=some (q.L[0]'(by omega)):=bp (i:=0) (by omega);unfold cP;rw [h0];simp only [bsm];rw [(h.ok _ (aF _)).2]
theorem oW (h:Pv C s k g W q ks):cp q=some ⟨q.L,hc q.At W ks.length,q.Auto⟩:=by
 unfold cp;rw [qW h];simp only [bsm];rw [h.len,zg _ h.g.w1 h.g.w2 h.g.h1 h.g.h2];rfl
theorem wi (h:Pv C s k g W q ks):∃s' q' ks',fF s (some k)=some s'/\dj q=some q'/\Pv C s' k g W q' ks'/\ks'.length=ks.length/\
  Hd q'.At W ks.length/\q'.At.Pending=false/\q'.At.Col=(hc q.At W ks.length).Col/\q'.Auto=q.Auto:=by
 have h1:=h.set (hc q.At W ks.length) q.Auto;have hd:=tR q.At h.g.w1 h.g.h1;have hh:=h.g.h2;unfold fF dj;rw [xy h,oW h];generalize hc q.At W ks.length=c at *;simp only [bsm,dk,ak,ba];rw [h1.p];simp only [bsm];rw [eW h1.g];simp only [bsm];unfold mY;rw [tX h.g.h1 h.g.h2];simp only [bsm];rw [aG (by omega),aG (by have:=hd.rr; omega),h.len];have hr:=hd.rr;by_cases he:(ks.length:Int)-1<=c.Row
 ·rw [ae (by simpa using he),af (by simp; omega)];have h2:=h1.set ⟨c.Row,c.Col,false⟩ q.Auto;rw [xp] at h2;simp only [bsm];rw [jj (by rw [show (s.sp k ⟨some g,c,q.Auto⟩).place_Pen.length=s.place_Pen.length by simp [Sto.sp]]; exact cR h.p),xp];simp only [bsm,bz];rw [eW h2.g];simp only [bsm];obtain ⟨s',ks',u1,⟨u2,u3,u4,u5⟩,u6,u7⟩:=Ai h2.g h2.nd 0 (ks.length:Int) 1;have hm:=qX (W:=W) (L:=q.L) (by rw [h.len]; exact hh) h.g.w2 (fun x hx=>(h.ok x hx).2) 0 (ks.length:Int) 1 true;rw [h.len] at hm;rw [u1,hm];refine ⟨s',_,ks',rfl,rfl,⟨?_,u2,u3,?_,(rS u6).trans h2.o,h2.f.step u7 (kT u6)⟩,u4,⟨hr,hd.cc,fun e=>by cases e⟩,rfl,rfl,rfl⟩
  ·rw [kT u6]; exact h2.p
  ·rw [u5,h2.l]
 ·rw [af (by simpa using he),ae (by simp; omega)];have h2:=h1.set ⟨c.Row+1,c.Col,false⟩ q.Auto;rw [xp] at h2;simp only [bsm];rw [jj (by rw [show (s.sp k ⟨some g,c,q.Auto⟩).place_Pen.length=s.place_Pen.length by simp [Sto.sp]]; exact cR h.p),xp];simp only [bsm,ak,ba];exact ⟨_,_,ks,rfl,rfl,h2,rfl,⟨by simp only; omega,hd.cc,fun e=>by cases e⟩,rfl,rfl,rfl⟩
theorem tI (h:Pv C s k g W q ks){i:Nat}(hi:i<ks.length) (x:aj):co q i x=some ⟨q.L.set i x,q.At,q.Auto⟩:=by
 have hl:=h.len;have hh:=h.g.h2;unfold co;rw [cU (by simp; omega),bm];simp only [bsm];rw [bp (show i<q.L.length by omega),lq (show i<q.L.length by omega)];rfl
theorem Bv (h:Pv C s k g W q ks) (hd:0<=q.At.Row/\q.At.Row<(ks.length:Int)):∃s' q' ks',fV s (some k)=some s'/\cz q=some q'/\Pv C s' k g W q' ks'/\ks'.length=ks.length/\
  Hd q'.At W ks.length/\q'.At.Pending=false/\q'.At.Col=0/\q'.Auto=q.Auto:=by
 obtain ⟨i,hi⟩:∃i:Nat,q.At.Row=(i:Int):=⟨q.At.Row.toNat,by omega⟩;have hik:i<ks.length:=by omega
 have hl:=h.len;obtain ⟨r,r1,r2,r3⟩:=h.g.at hik;have hrow:=h.row hik (r:=⟨r.cells,true⟩) r2 r3;have h2:=hrow.set ⟨q.At.Row,0,false⟩ q.Auto;have w1:=h.g.w1;unfold fV cz;simp only [bsm,h.p,hi];rw [ft h.g hik];simp only [bsm];rw [vV (l:=r.cells) (w:=r.wrap) r1];simp only [bsm];rw [hrow.p];simp only [bsm,dE];rw [jj (cR hrow.p)];simp only [bsm];rw [bp (show i<q.L.length by omega),h.at hik,nP r1];simp only [bsm];rw [tI h hik];simp only [bsm,hi];obtain ⟨s',q',ks',n1,n2,n3,n4,n5,n6,n7,n8⟩:=wi h2;rw [hi] at n1 n2;rw [n1,n2];refine ⟨s',q',ks',rfl,rfl,n3,n4,n5,n6,?_,n8⟩;rw [n7];simp only [hc];omega
theorem zl (h:Pv C s k g W q ks){i a:Nat}(hi:i<ks.length) (hp:Snd p) (hn:1<=p.length) (ha:a+p.length<=W):∃s' q',ei s (some ks[i]) a p=some (s',Er.nil)/\ci q i a p=some q'/\
  Pv C s' k g W q' ks/\q'.At=q.At/\q'.Auto=q.Auto/\q'.L=q.L.set i ⟨pl (ln s ks[i]).Cells a p,pw (ln s ks[i]).Cells (ln s ks[i]).Wrap a p.length⟩:=by
 obtain ⟨r,r1,r2,r3⟩:=h.g.at hi;have w2:=h.g.w2;have hl:=h.len;have hrow:=h.row hi (r:=⟨pl r.cells a p,pw r.cells r.wrap a p.length⟩) (r2.paint hp (by rw [r3]; exact ha)) (by rw [jO]; exact r3);refine ⟨_,_,oT (l:=r.cells) (w:=r.wrap) r1 r2 (by omega) hp hn (by omega),?_,hrow,rfl,rfl,by rw [nP r1]⟩;unfold ci;rw [bp (show i<q.L.length by omega),h.at hi,nP r1];simp only [bsm];rw [uA _ _ _ _ (by omega) (by omega) (by omega)];simp only [bsm];rw [tI h hi];rfl
end Go.Proofs.YtclmdpamofdoiaaGreatDoor
namespace Go.Proofs.YtclmdpamofdoiaaGreatDoor
open Go Go.Lt
def ca (c:ai) (d W:Nat) (au:Bool):ai:=if c.Col<(W:Int)-d then ⟨c.Row,c.Col+d,false⟩ else ⟨c.Row,(W:Int)-1,au⟩
theorem CH (c:ai){d W:Nat}(hd:d=1\/d=2) (w1:1<=W) (w2:W<=1024) (hc:0<=c.Col/\c.Col<(W:Int)) (au:Bool):kI c d W au=some (ca c d W au):=by
 unfold kI ca;rw [tX w1 w2];simp only [bsm,fq,dF];rw [show max (1:Int) (min (d:Int) 2)=(d:Int) by omega,aG (by omega),aG (by omega),aG (by omega)];by_cases h:c.Col<(W:Int)-d
 ·rw [ae (by simpa using h),ae h]
 ·rw [af (by simpa using h),af h]
theorem xx (c:ai){d W:Nat}(hd:d=1\/d=2) (w1:1<=W) (w2:W<=1024) (hc:0<=c.Col/\c.Col<(W:Int)) (au:Bool):fN c d W au=some (ca c d W au):=by
 unfold fN ca;have hz:(if decide ((d:Int)>1)=true then (some 2:Option Int) else some 1)=some (d:Int):=by
  rcases hd with rfl|rfl <;> rfl
 rw [hz];simp only [bsm];rw [vY w1 w2];simp only [bsm];rw [aG (by omega),aG (by omega),aG (by omega)];by_cases h:c.Col<(W:Int)-d
 ·rw [af (by simp; omega),ae h]
 ·rw [ae (by simp; omega),af h]
variable {s C:Sto}{g k W:Nat}{ks:List Nat}{q:aa}
theorem IF {c:ai}{d h:Nat}(hd:d=1\/d=2) (w1:1<=W) (hc:0<=c.Col/\c.Col<(W:Int)) (hr:0<=c.Row/\c.Row<(h:Int)) (au:Bool):Hd (ca c d W au) W h:=by
 unfold ca;by_cases h:c.Col<(W:Int)-d
 ·rw [ae h];exact ⟨hr,by simp only; omega,fun e=>by cases e⟩
 ·rw [af h];exact ⟨hr,by simp only; omega,fun _=>rfl⟩
theorem ou (d:Nat) (hd:d=1\/d=2) (t:List Int):(eu (d:Int) t).length=d:=by
 unfold eu;rcases hd with rfl|rfl <;> (repeat' split) <;> first|rfl|(exfalso; omega)
def fld (q:aa):(List aj)×Int×Int×Bool×Bool:=(q.L,q.At.Row,q.At.Col,q.At.Pending,q.Auto)
def rp1 (q:aa):Option ((List aj)×Int×Int×Bool×Bool):=
 if q.At.Pending=true then
 (cz q).bind fun x_34=>
 (some (x_34.L,x_34.At.Row,x_34.At.Col,x_34.At.Pending,x_34.Auto):Option ((List aj)×Int×Int×Bool×Bool))
 else
 (some (q.L,q.At.Row,q.At.Col,q.At.Pending,q.Auto):Option ((List aj)×Int×Int×Bool×Bool))
def rp2 (d W:Int) (z_28:(List aj)×Int×Int×Bool×Bool):Option ((List aj)×Int×Int×Bool×Bool):=
 (bT (d==2) (some (z_28.2.2.1==(w64 (W-1))))).bind fun d_40=>
 if d_40=true then
 if z_28.2.2.2.2=true then
 (rep 1 (⟨0,([]:List Int)⟩:ab)).bind fun x_58=>
 (ci (⟨z_28.1,(⟨z_28.2.1,z_28.2.2.1,z_28.2.2.2.1⟩:ai),z_28.2.2.2.2⟩:aa) z_28.2.1 (w64 (W-1)) x_58).bind fun x_59=>
 (cz x_59).bind fun x_60=>
 (some (x_60.L,x_60.At.Row,x_60.At.Col,x_60.At.Pending,x_60.Auto):Option ((List aj)×Int×Int×Bool×Bool))
 else
 (some (z_28.1,z_28.2.1,(w64 (W-2)),z_28.2.2.2.1,z_28.2.2.2.2):Option ((List aj)×Int×Int×Bool×Bool))
 else
 (some (z_28.1,z_28.2.1,z_28.2.2.1,z_28.2.2.2.1,z_28.2.2.2.2):Option ((List aj)×Int×Int×Bool×Bool))
def cp1 (s:Sto) (p0:Option Nat):Option Sto:=
 (p0).bind fun k_3=>
 (s.place_Pen[k_3]?).bind fun o_6=>
 if o_6.At.Pending=true then
 (fV s p0).bind fun x_9=>
 (some (x_9):Option (Sto))
 else
 (some (s):Option (Sto))
theorem F6 (h:Pv C s k g W q ks) (hd:Hd q.At W ks.length):∃s' q' ks',cp1 s (some k)=some s'/\rp1 q=some (fld q')/\Pv C s' k g W q' ks'/\ks'.length=ks.length/\Hd q'.At W ks.length/\q'.Auto=q.Auto/\q'.At.Pending=false:=by
 unfold cp1 rp1;simp only [bsm,h.p]
 cases hp:q.At.Pending with
 | false=>
  simp only [ak,ba];exact ⟨s,q,ks,rfl,by unfold fld; rw [hp],h,rfl,hd,rfl,hp⟩
 | true=>
  simp only [bz];obtain ⟨s',q',ks',a1,a2,a3,a4,a5,a6,a7,a8⟩:=Bv h hd.rr;rw [a1,a2];exact ⟨s',q',ks',rfl,rfl,a3,a4,a5,a8,a6⟩
theorem Bl (h:Pv C s k g W q ks) (hd:Hd q.At W ks.length){d:Nat}(hdd:d=1\/d=2) (hdw:d<=W):
  ∃s' q' ks' z,jG s (some k) d=some s'/\rp1 q=some z/\rp2 d W z=some (fld q')/\Pv C s' k g W q' ks'/\ks'.length=ks.length/\(0<=q'.At.Row/\q'.At.Row<(ks.length:Int))/\(0<=q'.At.Col/\q'.At.Col+d<=(W:Int))/\q'.Auto=q.Auto:=by
 obtain ⟨s1,q1,ks1,a1,a2,v1,n1,hd1,au1,pe1⟩:=F6 h hd;have w1:=h.g.w1;have w2:=h.g.w2;have hcc:=hd1.cc;unfold jG
 change ∃s' q' ks' z,((cp1 s (some k)).bind _)=some s'/\_
 rw [a1];simp only [bsm,v1.p];rw [jB v1.g];simp only [bsm,bD];have e1:w64 ((W:Int)-1)=((W-1:Nat):Int):=by rw [aG (by omega)]; omega
 have e2:w64 ((W:Int)-2)=(W:Int)-2:=aG (by omega);rw [e1];unfold rp2;by_cases hA:d=1\/q1.At.Col<(W:Int)-1
 ·rw [ae (by simp only [aD,aT,an]; omega)];refine ⟨s1,q1,ks1,_,rfl,a2,?_,v1,n1,hd1.rr,by omega,au1⟩;simp only [fld,bi,bsm,e1];rw [af (by simp only [av,aT]; omega)]
 ·rw [af (by simp only [aD,aT,an]; omega)];have hd2:d=2:=by omega
  have hcol:q1.At.Col=(W:Int)-1:=by omega
  obtain ⟨i,hi⟩:∃i:Nat,q1.At.Row=(i:Int):=⟨q1.At.Row.toNat,by have:=hd1.rr; omega⟩;have hik:i<ks1.length:=by have:=hd1.rr; omega
  cases hau:q1.Auto with
  | true=>
   simp only [bz];rw [hi,ft v1.g hik];simp only [bsm];rw [show eI 1=some [bl] from uR 1];simp only [bsm];obtain ⟨s2,q2,b1,b2,v2,at2,au2,_⟩:=zl (p:=[bl]) (a:=W-1) v1 hik (uq 1) (by decide) (by simp; omega);rw [b1];simp only [bsm];obtain ⟨s3,q3,ks3,c1,c2,v3,n3,hd3,pe3,co3,au3⟩:=Bv v2 (by rw [at2,n1]; exact hd1.rr);rw [c1];refine ⟨s3,q3,ks3,_,rfl,a2,?_,v3,n3.trans n1,by rw [<-n1]; exact hd3.rr,by rw [co3]; omega,by rw [au3,au2,au1]⟩;simp only [fld,bi,bsm,e1];rw [ae (by simp only [av,aT]; omega)];simp only [hau,bz];rw [oF _ (by decide),hi];simp only [bsm];rw [show (List.replicate (1:Int).toNat (⟨0,[]⟩:ab))= [bl] from rfl];have b2':ci ⟨q1.L,⟨(i:Int),q1.At.Col,q1.At.Pending⟩,true⟩ i ((W-1:Nat):Int) [bl]=some q2:=by rw [<-hi,<-hau]; rw [<-hi] at b2; exact b2
   rw [b2'];simp only [bsm];rw [c2];rfl
  | false=>
   simp only [ak,ba];rw [jj (cR v1.p)];simp only [bsm];have e3:w64 (q1.At.Col-1)=(W:Int)-2:=by rw [aG (by omega)]; omega
   have v2:=v1.set ⟨q1.At.Row,(W:Int)-2,q1.At.Pending⟩ q1.Auto;rw [hau] at v2;rw [e3];refine ⟨_,_,ks1,_,rfl,a2,?_,v2,n1,hd1.rr,by simp only; omega,by simp only; rw [<-hau]; exact au1⟩;simp only [fld,bi,bsm,e1,e2];rw [ae (by simp only [av,aT]; omega)];simp only [hau,ak,ba]
def cl2 (p1:Int) (t:List Int) (W:Nat):Nat×List Int:=if max 1 (min p1 2)>(W:Int) then (1,[65533]) else ((max 1 (min p1 2)).toNat,t)
theorem Ef (p1:Int) (t:List Int) (w1:1<=W):((cl2 p1 t W).1=1\/(cl2 p1 t W).1=2)/\(cl2 p1 t W).1<=W:=by
 unfold cl2;split
 ·exact ⟨.inl rfl,w1⟩
 ·simp only;omega
theorem Ee (p1:Int) (t:List Int):(if (decide ((aE 1 (aB p1 2))>(W:Int)))=true then (some (1,([65533]:List Int)):Option (Int×(List Int))) else (some ((aE 1 (aB p1 2)),t):Option (Int×(List Int))))=some (((cl2 p1 t W).1:Int),(cl2 p1 t W).2):=by
 rw [dF,fq];unfold cl2;by_cases h:max 1 (min p1 2)>(W:Int)
 ·rw [ae (by simpa using h),ae h];rfl
 ·rw [af (by simpa using h),af h];simp only;rw [qm (by omega)]
theorem AB (h:Pv C s k g W q ks) (p1:Int) (t:List Int) (ht:t.length<=1000000):∃(s':Sto) (q':aa) (ks':List Nat) (i a:Nat),i<ks.length/\jh s (some k) p1 t=some (s',⟨(i:Int),(a:Int),false⟩)/\be q p1 t=some (q',⟨(i:Int),(a:Int),false⟩)/\
  Pv C s' k g W q' ks'/\ks'.length=ks.length/\Hd q'.At W ks.length/\q'.Auto=q.Auto/\a+(cl2 p1 t W).1<=W/\
  ∃l0 w0,l0.length=W/\q'.L[i]? = some ⟨pl l0 a (eu (cl2 p1 t W).1 (fx (cl2 p1 t W).2)),w0⟩:=by
 have hl:(cl2 p1 t W).2.length<=1000000:=by unfold cl2; split <;> simp; exact ht
 obtain ⟨hdd,hdw⟩:=Ef p1 t h.g.w1;have hce:=Ee (W:=W) p1 t;have w1:=h.g.w1;have w2:=h.g.w2;have h1:=h.set (hc q.At W ks.length) q.Auto;have hd:=tR q.At h.g.w1 h.g.h1;unfold jh be;rw [xy h,oW h];generalize hc q.At W ks.length=c at *;simp only [bsm,dk,ak,ba,h1.p];rw [jB h1.g,qW h1];simp only [bsm];rw [hce];generalize (cl2 p1 t W).2=t2 at *;generalize (cl2 p1 t W).1=d at *;simp only [bsm];obtain ⟨s2,q2,ks2,z,a1,a2,a3,v2,n2,hr,hcl,au⟩:=Bl h1 hd hdd hdw;rw [a1];obtain ⟨i,hi⟩:∃i:Nat,q2.At.Row=(i:Int):=⟨q2.At.Row.toNat,by omega⟩;obtain ⟨a,ha⟩:∃a:Nat,q2.At.Col=(a:Int):=⟨q2.At.Col.toNat,by omega⟩;have hik:i<ks2.length:=by omega
 obtain ⟨L2,⟨row2,col2,pd2⟩,ua2⟩:=q2;simp only at hi ha hr hcl au;subst hi ha;simp only [bsm,v2.p];rw [ft v2.g hik];simp only [bsm];unfold lJ;rw [BI _ _ (by omega)];simp only [bsm];have hsl:=ou d hdd (fx t2);obtain ⟨s3,q3,b1,b2,v3,at3,au3,l3⟩:=zl (p:=eu d (fx t2)) (a:=a) v2 hik (Am _ _) (by rw [hsl]; omega) (by rw [hsl]; omega);rw [b1];simp only [bsm,v3.p];rw [jB v3.g];simp only [bsm];have hc2:0<=(⟨(i:Int),(a:Int),false⟩:ai).Col/\(⟨(i:Int),(a:Int),false⟩:ai).Col<(W:Int):=by simp only; omega
 rw [CH _ hdd w1 w2 hc2];simp only [bsm];rw [jj (cR v3.p)];simp only [bsm];have v4:=v3.set (ca ⟨(i:Int),(a:Int),false⟩ d W q3.Auto) q3.Auto
 change ∃s' q' ks' i_1 a_1,_/\_/\((rp1 ⟨q.L,c,q.Auto⟩).bind fun z_28=>(rp2 d W z_28).bind _)=_/\_
 rw [a2];simp only [bsm];rw [a3];simp only [fld,bsm];rw [Dx _ _ (by omega)];simp only [bsm];rw [b2];simp only [bsm];rw [xx _ hdd w1 w2 hc2];simp only [bsm];refine ⟨_,_,ks2,i,a,by omega,rfl,rfl,v4,n2,IF hdd w1 hc2 (by simp only; omega) _,by simp only; rw [au3,au],by omega,(ln s2 ks2[i]).Cells,pw (ln s2 ks2[i]).Cells (ln s2 ks2[i]).Wrap a (eu d (fx t2)).length,?_,?_⟩
 ·have:=v2.ok _ (aF (show i<L2.length by have:=v2.len; simp only at this; omega));rw [v2.at hik] at this;exact this.2
 ·simp only;rw [l3,bA (by have:=v2.len; simp only at this|-; omega)]
end Go.Proofs.YtclmdpamofdoiaaGreatDoor
namespace Go.Proofs.YtclmdpamofdoiaaGreatDoor
open Go Go.Lt
variable {s:Sto}{k g W:Nat}{l p p':List ab}{w:Bool}{q:aa}{ks:List Nat}
theorem tA (l:List ab) (a n j:Nat):tch l a n j=true↔(a<=j/\j<a+n)\/(kd l j=2/\a<=j+1/\j+1<a+n)\/(kd l j=3/\a+1<=j/\j<a+n+1):=by
 simp only [tch,aD,av,an];omega
theorem yd {c j:Nat}(h:¬(c<=j/\j<c+p.length)):pc l c p j=if (kd l j=2/\j+1=c/\0<p.length)\/(kd l j=3/\j=c+p.length/\0<p.length) then bl else l.getD j bl:=by
 rw [GP h];by_cases ht:tch l c p.length j=true
 ·rw [ae ht,ae];rw [tA] at ht;omega
 ·rw [af ht,af];rw [tA] at ht;omega
theorem DS {c j:Nat}(hj:j<l.length) (h:¬(c<=j/\j<c+p.length)):kd (pl l c p) j=if (kd l j=2/\j+1=c/\0<p.length)\/(kd l j=3/\j=c+p.length/\0<p.length) then 0 else kd l j:=by
 rw [DR hj,yd h];split
 ·rfl
 ·exact nL l j
theorem yc {a c:Nat}(h1:a<=c) (h2:c+p.length<=a+p'.length) (h3:a+p'.length<=l.length):pl (pl l c p) a p'=pl l a p':=by
 apply bZ;intro j;rcases aQ j l.length with hj|hj
 ·rw [uB (by rw [jO]; exact hj),uB hj]
  congr 1
  by_cases hi:a<=j/\j<a+p'.length
  ·rw [DF hi,DF hi]
  ·have hc:¬(c<=j/\j<c+p.length):=by omega
   have hg:(pl l c p).getD j bl=pc l c p j:=by rw [ao,uB hj]; rfl
   rw [yd hi,yd hi,DS hj hc,hg,yd hc];by_cases hA:(kd l j=2/\j+1=c/\0<p.length)\/(kd l j=3/\j=c+p.length/\0<p.length)
   ·rw [ae hA,ae hA,af (by omega),ae (by omega)]
   ·rw [af hA,af hA]
 ·rw [aS (by rw [jO,jO]; exact hj),aS (by rw [jO]; exact hj)]
theorem Bm {a c:Nat}(h1:a<=c) (h2:c+p.length<=a+p'.length) (h3:a+p'.length<=l.length):pw (pl l c p) (pw l w c p.length) a p'.length=pw l w a p'.length:=by
 unfold pw;rw [jO];by_cases hl:0<l.length
 ·have e:(tch l c p.length (l.length-1) || tch (pl l c p) a p'.length (l.length-1))=tch l a p'.length (l.length-1):=by
   rw [cu,aD,tA,tA,tA];by_cases hc:c<=l.length-1/\l.length-1<c+p.length
   ·omega
   ·rw [DS (by omega) hc];split <;> omega
  rw [show decide (0<l.length)=true by simpa using hl,dH,dH,Bool.and_assoc,<-Bool.not_or,e,dH]
 ·rw [show decide (0<l.length)=false by simpa using hl];simp
end Go.Proofs.YtclmdpamofdoiaaGreatDoor
namespace Go.Proofs.YtclmdpamofdoiaaGreatDoor
open Go Go.Lt
variable {s C:Sto}{k g W:Nat}{l p p':List ab}{w:Bool}{q:aa}{ks:List Nat}
def rdy (q:aa) (W H d:Nat):Option ((List aj)×Int×Int×Bool×Bool):=(rp1 ⟨q.L,hc q.At W H,q.Auto⟩).bind (rp2 d W)
def Ch (L:List aj) (i a d W:Nat) (au:Bool) (t:List Int):aa:=
 ⟨L.set i ⟨pl (L.getD i dl).Cells a (eu d (fx t)),pw (L.getD i dl).Cells (L.getD i dl).Wrap a d⟩,ca ⟨(i:Int),(a:Int),false⟩ d W au,au⟩
theorem tJ {L:List aj}{c:ai}{au:Bool}{i a:Nat}(hi:i<L.length) (hL:L.length<=1024) (hw:(L.getD i dl).Cells.length<=1024) (hp:p.length<=1000000) (ha:a<=1000000):
  ci ⟨L,c,au⟩ i a p=some ⟨L.set i ⟨pl (L.getD i dl).Cells a p,pw (L.getD i dl).Cells (L.getD i dl).Wrap a p.length⟩,c,au⟩:=by
 unfold ci co;simp only [gdl hi] at hw|-;simp only [bp hi,bsm];rw [uA _ _ _ _ (by omega) ha hp];simp only [bsm];rw [cU (by simp; omega),bm];simp only [bsm];rw [bp hi,lq hi];rfl
theorem kw {L2:List aj}{i a d:Nat}{pd au:Bool}(hdd:d=1\/d=2) (h:Pv C s k g W q ks) (hr:rdy q W ks.length d=some (L2,(i:Int),(a:Int),pd,au)) (hi:i<ks.length) (ha:a+d<=W) (hL:L2.length=ks.length) (hok:∀x∈L2,Okl W x) (p1:Int) (t:List Int) (ht:t.length<=1000000)
  (hcl:(cl2 p1 t W).1=d):be q p1 t=some (Ch L2 i a d W au (cl2 p1 t W).2,⟨(i:Int),(a:Int),false⟩):=by
 have hl:(cl2 p1 t W).2.length<=1000000:=by unfold cl2; split <;> simp; exact ht
 have hce:=Ee (W:=W) p1 t;have w1:=h.g.w1;have w2:=h.g.w2;have h1:=h.set (hc q.At W ks.length) q.Auto;have h2:=h.g.h2;unfold be;rw [oW h];unfold rdy at hr;generalize hc q.At W ks.length=c at *;simp only [bsm];rw [qW h1];simp only [bsm];rw [hce,hcl];generalize (cl2 p1 t W).2=t2 at *;simp only [bsm];have hsl:=ou d hdd (fx t2);have hc2:0<=(⟨(i:Int),(a:Int),false⟩:ai).Col/\(⟨(i:Int),(a:Int),false⟩:ai).Col<(W:Int):=by simp only; omega
 obtain ⟨z,hz1,hz2⟩:=bs hr
 change ((rp1 ⟨q.L,c,q.Auto⟩).bind fun z_28=>(rp2 d W z_28).bind _)=_
 rw [hz1];simp only [bsm];rw [hz2];simp only [bsm];rw [Dx _ _ (by omega)];simp only [bsm];have hlt:i<L2.length:=by omega
 have hcells:(L2.getD i dl).Cells.length=W:=by
  rw [gdl hlt];exact (hok _ (aF hlt)).2
 rw [tJ hlt (by omega) (by omega) (by omega) (by omega)];simp only [bsm];rw [xx _ hdd w1 w2 hc2];simp only [bsm,Ch,hsl]
theorem DC (h:Pv C s k g W q ks){d:Nat}(hdd:d=1\/d=2) (hdw:d<=W):∃L2 i a pd,rdy q W ks.length d=some (L2,((i:Nat):Int),((a:Nat):Int),pd,q.Auto)/\i<ks.length/\a+d<=W/\L2.length=ks.length/\(∀x∈L2,Okl W x):=by
 have h1:=h.set (hc q.At W ks.length) q.Auto;have hd:=tR q.At h.g.w1 h.g.h1;obtain ⟨s2,q2,ks2,z,_,a2,a3,v2,n2,hr,hcl,au⟩:=Bl h1 hd hdd hdw;obtain ⟨i,hi⟩:∃i:Nat,q2.At.Row=(i:Int):=⟨q2.At.Row.toNat,by omega⟩;obtain ⟨a,ha⟩:∃a:Nat,q2.At.Col=(a:Int):=⟨q2.At.Col.toNat,by omega⟩;refine ⟨q2.L,i,a,q2.At.Pending,?_,by omega,by omega,by rw [v2.len,n2],v2.ok⟩;unfold rdy;rw [a2];simp only [bsm];rw [a3];simp only [fld,hi,ha,au]
theorem E6 (h:Pv C s k g W q ks):∃L1 i c,rp1 ⟨q.L,hc q.At W ks.length,q.Auto⟩=some (L1,((i:Nat):Int),((c:Nat):Int),false,q.Auto)/\i<ks.length/\c+1<=W/\L1.length=ks.length/\(∀x∈L1,Okl W x):=by
 have h1:=h.set (hc q.At W ks.length) q.Auto;have hd:=tR q.At h.g.w1 h.g.h1;obtain ⟨s2,q2,ks2,a1,a2,v2,n2,hd2,au,pe⟩:=F6 h1 hd;have hr:=hd2.rr;have hcc:=hd2.cc;obtain ⟨i,hi⟩:∃i:Nat,q2.At.Row=(i:Int):=⟨q2.At.Row.toNat,by omega⟩;obtain ⟨a,ha⟩:∃a:Nat,q2.At.Col=(a:Int):=⟨q2.At.Col.toNat,by omega⟩;refine ⟨q2.L,i,a,?_,by omega,by omega,by rw [v2.len,n2],v2.ok⟩;rw [a2];simp only [fld,hi,ha,au,pe]
theorem Bk (W:Int) (z:(List aj)×Int×Int×Bool×Bool):rp2 1 W z=some z:=by
 unfold rp2;simp only [bi,bsm];rw [af (by simp)]
theorem Ci (h:Pv C s k g W q ks){p1 p2:Int}{t1 t2:List Int}(ht1:t1.length<=1000000) (ht2:t2.length<=1000000) (hc1:(cl2 p1 t1 W).1=1){q':aa}{at_:ai}(hp:be q p1 t1=some (q',at_))
  {s' C':Sto}{ks':List Nat}(h':Pv C' s' k g W q' ks') (hk:ks'.length=ks.length):be ⟨q'.L,at_,q'.Auto⟩ p2 t2=be q p2 t2:=by
 obtain ⟨L1,i,c,e1,hi,hcw,hL1,hok1⟩:=E6 h;have w1:=h.g.w1;have w2:=h.g.w2;have hh2:=h.g.h2;have r1:rdy q W ks.length 1=some (L1,(i:Int),(c:Int),false,q.Auto):=by
  unfold rdy;rw [e1];exact Bk (W:Int) _
 have hq:=kw (.inl rfl) h r1 hi hcw hL1 hok1 p1 t1 ht1 hc1;rw [hp] at hq;simp only [aV,iq] at hq;obtain ⟨rfl,rfl⟩:=hq;simp only [Ch];have hlt:i<L1.length:=by omega
 generalize hX:(⟨pl (L1.getD i dl).Cells c (eu (1:Nat) (fx (cl2 p1 t1 W).2)),pw (L1.getD i dl).Cells (L1.getD i dl).Wrap c 1⟩:aj)=X;have hst:=ou 1 (.inl rfl) (fx (cl2 p1 t1 W).2);have hcells:(L1.getD i dl).Cells.length=W:=by
  rw [gdl hlt];exact (hok1 _ (aF hlt)).2
 have hXc:X.Cells.length=W:=by rw [<-hX]; simp only [jO]; exact hcells
 have h2:=h'.set ⟨(i:Int),(c:Int),false⟩ q.Auto;simp only [Ch] at h2;rw [hX] at h2;have hcid:hc ⟨(i:Int),(c:Int),false⟩ W ks.length=⟨(i:Int),(c:Int),false⟩:=Is ⟨by simp only; omega,by simp only; omega,fun e=>by cases e⟩;have e2:rp1 ⟨L1.set i X,hc ⟨(i:Int),(c:Int),false⟩ W ks'.length,q.Auto⟩=some (L1.set i X,(i:Int),(c:Int),false,q.Auto):=by
  rw [hk,hcid];unfold rp1;simp only [ak,ba]
 have hg:(L1.set i X).getD i dl=X:=by
  rw [ao,bA hlt];rfl
 have hokX:∀x∈L1.set i X,Okl W x:=h2.ok;obtain ⟨hdd,hdw⟩:=Ef p2 t2 w1;have over:∀(a d:Nat),d=1\/d=2->a<=c->c+1<=a+d->a+d<=W->∀p:List ab,p.length=d->(L1.set i X).set i ⟨pl ((L1.set i X).getD i dl).Cells a p,pw ((L1.set i X).getD i dl).Cells ((L1.set i X).getD i dl).Wrap a d⟩=L1.set i ⟨pl (L1.getD i dl).Cells a p,pw (L1.getD i dl).Cells (L1.getD i dl).Wrap a d⟩:=by
  intro a d _ g1 g2 g3 p hpl;rw [hg,List.set_set]
  congr 1
  rw [<-hX];simp only;have o1:=yc (l:=(L1.getD i dl).Cells) (p:=eu (1:Nat) (fx (cl2 p1 t1 W).2)) (p':=p) g1 (by omega) (by omega);have o2:=Bm (l:=(L1.getD i dl).Cells) (w:=(L1.getD i dl).Wrap) (p:=eu (1:Nat) (fx (cl2 p1 t1 W).2)) (p':=p) g1 (by omega) (by omega);rw [hst,hpl] at o2;rw [o1,o2]
 have fin:∀(a d:Nat) (pd pd':Bool),d=1\/d=2->(cl2 p2 t2 W).1=d->a<=c->c+1<=a+d->a+d<=W->rdy q W ks.length d=some (L1,(i:Int),(a:Int),pd,q.Auto)->rdy ⟨L1.set i X,⟨(i:Int),(c:Int),false⟩,q.Auto⟩ W ks'.length d=some (L1.set i X,(i:Int),(a:Int),pd',q.Auto)->
   be ⟨L1.set i X,⟨(i:Int),(c:Int),false⟩,q.Auto⟩ p2 t2=be q p2 t2:=by
  intro a d pd pd' g0 g1 g2 g3 g4 b1 b2;rw [kw g0 h b1 hi g4 hL1 hok1 p2 t2 ht2 g1,kw g0 h2 b2 (by omega) g4 (by rw [cx]; omega) hokX p2 t2 ht2 g1];have:=over a d g0 g2 g3 g4 (eu d (fx (cl2 p2 t2 W).2)) (ou d g0 _);unfold Ch;rw [this]
 have f1:∀(L:List aj) (d:Nat),d=2->c+1<W->rp2 d W (L,(i:Int),(c:Int),false,q.Auto)=some (L,(i:Int),(c:Int),false,q.Auto):=by
  intro L d hd hcn;unfold rp2;simp only [bi,bsm];rw [aG (by omega),af (by simp only [av,aT]; omega)]
 rcases hdd with hd1|hd2
 ·refine fin c 1 false false (.inl rfl) hd1 (az _) (az _) hcw r1 ?_;unfold rdy;rw [e2];exact Bk (W:Int) _
 ·by_cases hcn:c+1<W
  ·refine fin c 2 false false (.inr rfl) hd2 (az _) (by omega) (by omega) ?_ ?_
   ·unfold rdy;rw [e1];exact f1 _ 2 rfl hcn
   ·unfold rdy;rw [e2];exact f1 _ 2 rfl hcn
  ·have hcW:(c:Int)=(W:Int)-1:=by omega
   have ew1:w64 ((W:Int)-1)=((W-1:Nat):Int):=by rw [aG (by omega)]; omega
   have ew2:w64 ((W:Int)-2)=((W-2:Nat):Int):=by rw [aG (by omega)]; omega
   cases hau:q.Auto with
   | true=>
    have hpa:∀L:List aj,L.length=ks.length->(L.getD i dl).Cells.length=W->rp2 (2:Nat) W (L,(i:Int),(c:Int),false,true)=
      (cz ⟨L.set i ⟨pl (L.getD i dl).Cells (W-1) [bl],pw (L.getD i dl).Cells (L.getD i dl).Wrap (W-1) 1⟩,⟨(i:Int),(c:Int),false⟩,true⟩).bind fun x_60=>(some (x_60.L,x_60.At.Row,x_60.At.Col,x_60.At.Pending,x_60.Auto):Option ((List aj)×Int×Int×Bool×Bool)):=by
     intro L hL hLw;unfold rp2;simp only [bi,bsm];rw [ae (by simp only [av,aT]; rw [ew1]; omega)];simp only [bz];rw [oF _ (by decide)];simp only [bsm];rw [show (List.replicate (1:Int).toNat (⟨0,[]⟩:ab))= [bl] from rfl,ew1,tJ (by omega) (by omega) (by omega) (by decide) (by omega)];simp only [bsm];rfl
    obtain ⟨L2,i2,a2,pd2,g1,g2,g3,g4,g5⟩:=DC h (.inr rfl) (by omega:2<=W);have hsame:rdy ⟨L1.set i X,⟨(i:Int),(c:Int),false⟩,true⟩ W ks'.length 2=rdy q W ks.length 2:=by
     rw [hau] at e1 e2;unfold rdy;rw [hau,e1,e2];simp only [bsm];rw [hpa _ (by rw [cx]; omega) (by rw [hg]; exact hXc),hpa _ hL1 hcells];rw [over (W-1) 1 (.inl rfl) (by omega) (by omega) (by omega) [bl] rfl]
    rw [hau] at h2;rw [kw (.inr rfl) h g1 g2 g3 g4 g5 p2 t2 ht2 hd2,kw (.inr rfl) h2 (hsame.trans g1) (by omega) g3 (by omega) g5 p2 t2 ht2 hd2]
   | false=>
    have hna:∀L:List aj,rp2 (2:Nat) W (L,(i:Int),(c:Int),false,q.Auto)=some (L,(i:Int),((W-2:Nat):Int),false,q.Auto):=by
     intro L;unfold rp2;simp only [bi,bsm];rw [ae (by simp only [av,aT]; rw [ew1]; omega)];simp only [hau,ak,ba];rw [ew2]
    have key:=fin (W-2) 2 false false (.inr rfl) hd2 (by omega) (by omega) (by omega) (by unfold rdy; rw [e1]; exact hna _) (by unfold rdy; rw [e2]; exact hna _);rw [hau] at key;exact key
end Go.Proofs.YtclmdpamofdoiaaGreatDoor
namespace Go.Proofs.YtclmdpamofdoiaaGreatDoor
open Go Go.Lt
variable {s:Sto}{k g W:Nat}{l p p':List ab}{w:Bool}{q:aa}{ks:List Nat}
theorem FD {x:Int}(h:vld x=true):gi x=x:=by unfold gi; rw [ae h]
theorem AM (x:Int):gi (gi x)=gi x:=FD (yO x)
theorem D2 {t:List Int}(ht:t.length<=15) (x:Int):fx (t++ [gi x])=fx (t++ [x]):=by
 unfold fx;rw [aC (by simp; omega),aC (by simp; omega),bU,bU];simp [AM]
theorem Da {d:Nat}(hd:d=1\/d=2){t:List Int}(ht:t≠ []):eu (d:Int) t=if d=2 then [⟨2,t⟩,⟨3,[]⟩] else [⟨1,t⟩]:=by
 unfold eu;rw [af ht];rcases hd with rfl|rfl <;> rfl
theorem Cq {l0:List ab}{a d:Nat}{t:List Int}(hdd:d=1\/d=2) (h:s.row_Row[k]? = some ⟨pl l0 a (eu d t),w⟩) (hs:Snd (pl l0 a (eu d t))) (hl:l0.length<=1024) (ha:a+d<=l0.length) (ht1:1<=t.length) (ht2:t.length<=15) (x:Int):
  nR s (some k) a x=some (s.sr k ⟨pl l0 a (eu d (fx (t++ [x]))),pw (pl l0 a (eu d t)) w a d⟩,true):=by
 have hne:t≠ []:=fun e=>by rw [e] at ht1; simp at ht1
 have hsl:=ou d hdd t;have hc:pc l0 a (eu d t) a=⟨(d:Int),t⟩:=by
  rw [DF ⟨az _,by rw [hsl]; omega⟩,oh,Da hdd hne];rcases hdd with rfl|rfl <;> rfl
 have hkd:kd (pl l0 a (eu d t)) a=(d:Int):=by rw [DR (by omega),hc]
 have hm:mat (pl l0 a (eu d t)) (a:Int)=some a:=by
  unfold mat;rw [ae (by rw [jO]; omega),ce,hkd,af (by omega),af (by omega)]
 unfold nR;rw [Fl h hs a (by omega),hm];have hg:(pl l0 a (eu d t)).getD a bl=⟨(d:Int),t⟩:=by rw [ao,uB (by omega),hc]; rfl
 simp only [bsm,dk,ez,hg,hkd];rw [af (by simp; omega),cU (by simp; omega)];simp only [bsm];have hsl2:=ou d hdd (fx (t++ [x]));rw [DN h hs (by rw [jO]; exact hl) _ (by simp; omega) (by rw [hsl2,jO]; exact ha),yc (az a) (by omega) (by omega),hsl2];simp only [bsm,Er.isNil]
def zb (b:Int):Bool:=b==1 || b==2 || b==3 || b==4 || b==5 || b==10 || b==11
def b2 (x:aw):Bool:= !zb x.Break && (x.East==1 || x.East==2)
theorem A2 (b:Int):mh b=some (zb b):=by
 unfold mh zb;by_cases h1:b=1
 ·subst h1; rfl
 by_cases h2:b=2
 ·subst h2; rfl
 by_cases h3:b=3
 ·subst h3; rfl
 by_cases h4:b=4
 ·subst h4; rfl
 by_cases h5:b=5
 ·subst h5; rfl
 by_cases h6:b=10
 ·subst h6; rfl
 by_cases h7:b=11
 ·subst h7; rfl
 simp [h1,h2,h3,h4,h5,h6,h7]
theorem Ev (x:aw):∃n,nU x=some n/\(n==2)=b2 x:=by
 unfold nU b2;rw [A2];simp only [bsm,bD]
 cases zb x.Break with
 | true=>exact ⟨0,rfl,rfl⟩
 | false=>
  cases h:(x.East==1 || x.East==2) with
  | true=>exact ⟨2,by simp [h],rfl⟩
  | false=>exact ⟨1,by simp [h],rfl⟩
def gz (y:bG) (r:Int) (x:aw):bG:=⟨true,x.Pict,y.wide || (b2 x || (y.some && ((r==65039 && y.pict) || x.Pict || x.Break==6)))⟩
def wz (y:bG):Int:=if y.wide=true then 2 else 1
theorem AL (y:bG) (r:Int) (x:aw):cG y r x=some (gz y r x,wz (gz y r x)):=by
 have hw:cw y r x=some (b2 x || (y.some && ((r==65039 && y.pict) || x.Pict || x.Break==6))):=by
  unfold cw;obtain ⟨n,h1,h2⟩:=Ev x;rw [h1];simp only [bsm,h2,bi,bD]
  cases b2 x <;> cases y.some <;> rfl
 unfold cG;rw [hw];simp only [bsm,bD,ak,ba];unfold wz gz;split <;> simp_all
structure Cv (c:bL) (t:List Int):Prop where
 n:c.n=(t.length:Int)
 h:t.length<=16
 t:(a16 c.text).take t.length=t
theorem yr {c:bL}{t:List Int}(h:Cv c t):bX c=some (decide (t.length=16)):=by
 unfold bX dh;simp only [ak,ba,bsm,h.n]
 congr 1
 rw [cu,aT,an];omega
theorem Ho {c:bL}{t:List Int}(h:Cv c t) (h2:t.length<16) (x:Int):∃c',cC c x=some (c',true)/\Cv c' (t++ [x]):=by
 unfold cC;rw [yr h];simp only [ez,bsm];rw [af (by simp; omega),h.n,bp (by rw [oz]; exact h2)];simp only [bsm];refine ⟨_,rfl,by simp only; rw [aG (by omega)]; simp,by simp; omega,?_⟩;simp only;rw [Ae,ce,aA];simp only [aK,aP];rw [ax (by rw [cx,oz]; exact h2),List.take_set_of_le (az _),h.t,List.getElem_set_self]
theorem BF {c:bL}{t:List Int}(h:Cv c t):bW c=some t:=by
 unfold bW;simp only [ak,ba,h.n];have:=oE (xs:=a16 c.text) (i:=0) (j:=t.length) (cE _) (by rw [oz]; exact h.h);rw [show ((0:Nat):Int)=0 by rfl] at this;rw [this];simp only [bsm,jL,og,h.t];unfold gy;rw [cU (by have:=h.h; simp; omega)];rfl
end Go.Proofs.YtclmdpamofdoiaaGreatDoor
namespace Go.Proofs.YtclmdpamofdoiaaGreatDoor
open Go Go.Lt
variable {s C:Sto}{k g W j:Nat}{w:Bool}{q:aa}{ks:List Nat}
def Sto.sc (s:Sto) (j:Nat) (x:bq):Sto:={ s with widen_Cluster:=s.widen_Cluster.set j x}
theorem ut {x:bq}(h:j<s.widen_Cluster.length):s.set_widen_Cluster j x=some (s.sc j x):=by
 unfold Sto.set_widen_Cluster;rw [ae h];rfl
theorem qU {x:bq}(h:j<s.widen_Cluster.length):(s.sc j x).widen_Cluster[j]? = some x:=by simp [Sto.sc,h]
theorem xu (s:Sto) (j:Nat) (x y:bq):(s.sc j x).sc j y=s.sc j y:=by simp [Sto.sc]
theorem Gw.sc (h:Gw s g ks W) (j:Nat) (x:bq):Gw (s.sc j x) g ks W:=⟨h.g,h.r,h.h1,h.h2,h.w1,h.w2⟩
theorem Gw.addc (h:Gw s g ks W) (x:bq):Gw (s.add_widen_Cluster x) g ks W:=⟨h.g,h.r,h.h1,h.h2,h.w1,h.w2⟩
theorem Pv.sc (h:Pv s s k g W q ks) (j:Nat) (x:bq):Pv (s.sc j x) (s.sc j x) k g W q ks:=
 ⟨h.p,h.g.sc j x,h.nd,h.l,rfl,h.f.rgp ⟨rfl,rfl,rfl⟩ ⟨rfl,rfl,rfl⟩⟩
theorem Pv.addc (h:Pv s s k g W q ks) (x:bq):Pv (s.add_widen_Cluster x) (s.add_widen_Cluster x) k g W q ks:=
 ⟨h.p,h.g.addc x,h.nd,h.l,rfl,h.f.rgp ⟨rfl,rfl,rfl⟩ ⟨rfl,rfl,rfl⟩⟩
theorem uD {a b:Sto}(h:a.oth=b.oth):a.widen_Cluster=b.widen_Cluster:=by
 have:=gY Sto.widen_Cluster h;exact this
structure Wc (s:Sto) (j:Nat) (c:ai) (y:bG) (t:List Int) (n:Int):Prop where
 x:∃b,s.widen_Cluster[j]? = some ⟨c,n,b,y⟩/\Cv b t
theorem Wc.lt {c:ai}{y:bG}{t:List Int}{n:Int}(h:Wc s j c y t n):j<s.widen_Cluster.length:=by
 obtain ⟨b,h,_⟩:=h.x;exact cR h
theorem EX (r:Int):((fu r).bind fun x_6=>if (!x_6)=true then (some (65533):Option (Int)) else (some (r):Option (Int)))=some (gi r):=by
 rw [uu];unfold gi
 cases vld r <;> rfl
theorem EC {c:ai}{y:bG}{t:List Int}{n:Int}(h:Wc s j c y t n) (ht:t.length<16) (r:Int) (x:aw):
  ∃b',fD s (some j) r x=some (s.sc j ⟨c,n,b',gz y (gi r) x⟩,wz (gz y (gi r) x))/\Cv b' (t++ [gi r]):=by
 have hj:=h.lt;obtain ⟨b,hb,hv⟩:=h.x;obtain ⟨b',h1,h2⟩:=Ho hv ht (gi r);refine ⟨b',?_,h2⟩;unfold fD;rw [EX];simp only [bsm,hb,h1];rw [ut hj];simp only [bsm,AL];rw [ut (by simp [Sto.sc]; exact hj),xu];rfl
theorem FO (t:List Int) (h:2<=W):cl2 2 t W=(2,t):=by
 unfold cl2;rw [af (by omega)];rfl
theorem BG (t:List Int) (h:1<=W):cl2 1 t W=(1,t):=by
 unfold cl2;rw [af (by omega)];rfl
theorem BH (t:List Int):cl2 2 t 1=(1,[65533]):=by
 unfold cl2;rw [ae (by decide)]
structure On (C s:Sto) (k g W H j:Nat) (q0:aa) (y:bG) (t:List Int) (q:aa) (c:ai) (ks:List Nat):Prop where
 v:Pv s s k g W q ks
 f:Fr C s k g ks
 w:Wc s j c y t (wz y)
 n:ks.length=H
 p:be q0 (wz y) t=some (q,c)
theorem Eu {q0:aa}(h:Pv C s k g W q0 ks) (r:Int) (x:aw):∃s' q' c ks',lv s (some k) r x=some (s',some s.widen_Cluster.length)/\
  On C s' k g W ks.length s.widen_Cluster.length q0 (gz ⟨false,false,false⟩ (gi r) x) [gi r] q' c ks'/\∃z,s'.oth=(s.add_widen_Cluster z).oth:=by
 unfold lv;simp only [bO,ez,bsm,h.p,ak,ba];have h0:Wc (s.add_widen_Cluster ⟨⟨0,0,false⟩,0,⟨(0,0,0,0,0,0,0,0,0,0,0,0,0,0,0,0),0⟩,⟨false,false,false⟩⟩) s.widen_Cluster.length ⟨0,0,false⟩ ⟨false,false,false⟩ [] 0:=
  ⟨⟨⟨(0,0,0,0,0,0,0,0,0,0,0,0,0,0,0,0),0⟩,by simp [Sto.add_widen_Cluster],⟨rfl,by simp,rfl⟩⟩⟩
 obtain ⟨b,h1,h2⟩:=EC h0 (by simp) r x;have hlt:=h0.lt;rw [h1];have hv:=(h.self.addc ⟨⟨0,0,false⟩,0,⟨(0,0,0,0,0,0,0,0,0,0,0,0,0,0,0,0),0⟩,⟨false,false,false⟩⟩).sc s.widen_Cluster.length ⟨⟨0,0,false⟩,0,b,gz ⟨false,false,false⟩ (gi r) x⟩;have hR:Rgp s (s.add_widen_Cluster ⟨⟨0,0,false⟩,0,⟨(0,0,0,0,0,0,0,0,0,0,0,0,0,0,0,0),0⟩,⟨false,false,false⟩⟩):=⟨rfl,rfl,rfl⟩;have hA:∀z,((s.add_widen_Cluster ⟨⟨0,0,false⟩,0,⟨(0,0,0,0,0,0,0,0,0,0,0,0,0,0,0,0),0⟩,⟨false,false,false⟩⟩).sc s.widen_Cluster.length z)=s.add_widen_Cluster z:=fun z=>by
  simp [Sto.sc,Sto.add_widen_Cluster]
 generalize hs1:s.add_widen_Cluster ⟨⟨0,0,false⟩,0,⟨(0,0,0,0,0,0,0,0,0,0,0,0,0,0,0,0),0⟩,⟨false,false,false⟩⟩=s1 at *;simp only [bsm];rw [qU hlt];simp only [bsm];rw [ut (by simp [Sto.sc]; exact hlt),xu];simp only [bsm];rw [BF h2];simp only [bsm,bm];have hv2:=hv.sc s.widen_Cluster.length ⟨⟨0,0,false⟩,wz (gz ⟨false,false,false⟩ (gi r) x),b,gz ⟨false,false,false⟩ (gi r) x⟩;simp only [xu] at hv2;obtain ⟨s3,q3,ks3,i,a,p1,p2,p3,p4,p5,p6,p7,_⟩:=AB hv2 (wz (gz ⟨false,false,false⟩ (gi r) x)) [gi r] (by simp);rw [p2];have hcl:s3.widen_Cluster=(s1.sc s.widen_Cluster.length ⟨⟨0,0,false⟩,wz (gz ⟨false,false,false⟩ (gi r) x),b,gz ⟨false,false,false⟩ (gi r) x⟩).widen_Cluster:=uD p4.o;have hg3:s3.widen_Cluster[s.widen_Cluster.length]? = some ⟨⟨0,0,false⟩,wz (gz ⟨false,false,false⟩ (gi r) x),b,gz ⟨false,false,false⟩ (gi r) x⟩:=by
  rw [hcl];exact qU hlt
 simp only [bsm];rw [hg3];simp only [bsm];rw [ut (cR hg3)];refine ⟨_,q3,_,ks3,rfl,⟨p4.self.sc _ _,?_,⟨_,qU (cR hg3),by simpa using h2⟩,p5,p3⟩,⟨⟨(i:Int),(a:Int),false⟩,wz (gz ⟨false,false,false⟩ (gi r) x),b,gz ⟨false,false,false⟩ (gi r) x⟩,?_⟩
 ·exact (h.f.trans h.oG h.oR (p4.f.rgp (C':=s) ⟨hR.symm.r,hR.symm.g,hR.symm.p⟩ (Rgp.self _))).rgp (Rgp.self _) ⟨rfl,rfl,rfl⟩
 ·rw [<-hA];have:=gY (fun y:Sto=>y.sc s.widen_Cluster.length ⟨⟨(i:Int),(a:Int),false⟩,wz (gz ⟨false,false,false⟩ (gi r) x),b,gz ⟨false,false,false⟩ (gi r) x⟩) p4.o;refine this.trans ?_;show (((s1.sc _ _).sc _ _).oth)=_;rw [xu]
theorem yM (y:bG):(y.wide=false/\wz y=1)\/(y.wide=true/\wz y=2):=by
 unfold wz;cases y.wide
 ·exact .inl ⟨rfl,rfl⟩
 ·exact .inr ⟨rfl,rfl⟩
theorem Bu {y:bG}(h:y.wide=true) (r:Int) (x:aw):(gz y r x).wide=true:=by
 unfold gz;simp [h]
theorem FP (p1:Int) (t t':List Int) (W:Nat):(cl2 p1 t W).1=(cl2 p1 t' W).1:=by
 unfold cl2;split <;> rfl
theorem Ct {q0:aa}{y:bG}{t:List Int}{c:ai}{H:Nat}(h:On C s k g W H j q0 y t q c ks) (ht:t.length=16) (r:Int) (x:aw):
  dO s (some j) (some k) r x=some (s,false):=by
 obtain ⟨b,hb,hv⟩:=h.w.x;unfold dO;simp only [bO,ez,bsm,h.v.p,hb,yr hv,ht];rfl
theorem Fp {C0 s0:Sto}{ks0:List Nat}{q0:aa}{H:Nat}(h0:Pv C0 s0 k g W q0 ks0) (hH:ks0.length=H){y:bG}{t:List Int}{c:ai}(h:On C s k g W H j q0 y t q c ks) (ht1:1<=t.length) (ht:t.length<16) (hvt:∀x∈t,vld x=true) (r:Int) (x:aw):
  ∃s' q' c' ks',dO s (some j) (some k) r x=some (s',true)/\On C s' k g W H j q0 (gz y (gi r) x) (t++ [gi r]) q' c' ks'/\∃z,s'.oth=(s.sc j z).oth:=by
 have hj:=h.w.lt;obtain ⟨b',e1,e2⟩:=EC h.w ht r x;obtain ⟨b,hb,hv⟩:=h.w.x;have w1:=h0.g.w1;have w2:=h0.g.w2;unfold dO;have hfull:decide (t.length=16)=false:=by simp; omega
 simp only [bO,ez,bsm,h.v.p,hb,yr hv,hfull,ak,ba,e1];have htl:(t++ [gi r]).length<=1000000:=by simp; omega
 generalize hy':gz y (gi r) x=y' at *;rw [qU hj];simp only [bsm];rw [ut (by simp [Sto.sc]; exact hj),xu];simp only [bsm];have hv2:=h.v.sc j ⟨c,wz y',b',y'⟩;have hfr:Fr C (s.sc j ⟨c,wz y',b',y'⟩) k g ks:=h.f.rgp (Rgp.self _) ⟨rfl,rfl,rfl⟩;by_cases hw:wz y'=wz y
 ·rw [af (by simp [hw])];simp only [hv2.p,bsm];rw [jB hv2.g];simp only [bsm];obtain ⟨hdd,hdw⟩:=Ef (wz y) t w1;obtain ⟨L2,i,a,pd,r1,r2,r3,r4,r5⟩:=DC h0 hdd hdw;have hq:=kw hdd h0 r1 r2 r3 r4 r5 (wz y) t (by omega) rfl;have hq':=kw hdd h0 r1 r2 r3 r4 r5 (wz y) (t++ [gi r]) htl (FP _ _ _ _);rw [h.p] at hq;simp only [aV,iq] at hq;obtain ⟨hq1,rfl⟩:=hq;by_cases hle:wz y'<=(W:Int)
  ·rw [ae (by simpa using hle)];have hcl:∀t2:List Int,cl2 (wz y) t2 W=((wz y).toNat,t2):=fun t2=>by
    rw [hw] at hle;rcases yM y with ⟨_,q1⟩|⟨_,q1⟩
    ·rw [q1]; exact BG t2 w1
    ·rw [q1]; exact FO t2 (by omega)
   rw [hcl] at hq1 r3 hdd hdw r1 hq';rw [hcl] at hq';simp only at hq1 r3 hdd hdw r1 hq';generalize (wz y).toNat=d at *;have hik:i<ks.length:=by rw [h.n,<-hH]; exact r2
   rw [ft hv2.g hik];simp only [bsm];have hfx:fx t=t:=Iy hvt (by omega);obtain ⟨⟨rc,rw_⟩,hr0,hsn,hlw⟩:=h.v.g.at hik;simp only at hsn hlw;have hlt:i<L2.length:=by rw [r4]; exact r2
   have hat:=h.v.at hik;rw [nP hr0] at hat;have hqL:q.L=L2.set i ⟨pl (L2.getD i dl).Cells a (eu d (fx t)),pw (L2.getD i dl).Cells (L2.getD i dl).Wrap a d⟩:=by rw [hq1]; rfl
   have hgi:q.L[i]'(by rw [h.v.len]; exact hik)=⟨pl (L2.getD i dl).Cells a (eu d (fx t)),pw (L2.getD i dl).Cells (L2.getD i dl).Wrap a d⟩:=by
    have:q.L[i]? = some ⟨pl (L2.getD i dl).Cells a (eu d (fx t)),pw (L2.getD i dl).Cells (L2.getD i dl).Wrap a d⟩:=by rw [hqL,bA hlt]
    rw [ag (by rw [h.v.len]; exact hik)] at this;exact bj this
   rw [hgi] at hat;simp only [aj.mk.injEq] at hat;obtain ⟨hrc,hrw⟩:=hat;subst hrc hrw;have hcells:(L2.getD i dl).Cells.length=W:=by
    rw [gdl hlt];exact (r5 _ (aF hlt)).2
   have hq1A:q.At=ca ⟨(i:Int),(a:Int),false⟩ d W q0.Auto/\q.Auto=q0.Auto:=by rw [hq1]; exact ⟨rfl,rfl⟩
   generalize hl0:(L2.getD i dl).Cells=l0 at *;generalize hw0:(L2.getD i dl).Wrap=w0 at *;rw [hfx] at hr0 hsn hqL hlw hgi;have hr0':(s.sc j ⟨⟨(i:Int),(a:Int),false⟩,wz y',b',y'⟩).row_Row[ks[i]]? = some ⟨pl l0 a (eu d t),pw l0 w0 a d⟩:=hr0;have hst:=ou d hdd t;have hst2:=ou d hdd (fx (t++ [r]));rw [Cq hdd hr0' hsn (by omega) (by omega) ht1 (by omega) r];simp only [bsm];have o1:=yc (l:=l0) (p:=eu d t) (p':=eu d (fx (t++ [r]))) (az a) (by omega) (by omega);have o2:=Bm (l:=l0) (w:=w0) (p:=eu d t) (p':=eu d (fx (t++ [r]))) (az a) (by omega) (by omega);rw [hst,hst2] at o2;have hsn2:Snd (pl l0 a (eu d (fx (t++ [r])))):=by
    rw [<-o1];exact hsn.paint (Am _ _) (by rw [jO]; omega)
   have hv4:=hv2.row hik (r:=⟨pl l0 a (eu d (fx (t++ [r]))),pw (pl l0 a (eu d t)) (pw l0 w0 a d) a d⟩) hsn2 (by simp only [jO]; exact hcells);refine ⟨_,_,_,ks,rfl,⟨hv4.self,hfr.sr (aF hik) _,⟨b',qU hj,e2⟩,h.n,?_⟩,_,rfl⟩;rw [hw,hq'];have hfx2:=D2 (t:=t) (by omega) r;rw [o2,hqL,hq1A.1,hq1A.2,List.set_set,<-hfx2];unfold Ch;rw [hl0,hw0]
  ·rw [af (by simpa using hle)];have hW:W=1:=by
    rcases yM y' with ⟨_,q1⟩|⟨_,q1⟩ <;> omega
   refine ⟨_,q,_,ks,rfl,⟨hv2,hfr,⟨b',qU hj,e2⟩,h.n,?_⟩,_,rfl⟩;rw [hw,hq'];have h2:wz y=2:=by
    rcases yM y with ⟨_,q1⟩|⟨_,q1⟩
    ·rw [hw,q1] at hle; omega
    ·exact q1
   rw [hq1,h2,hW,BH,BH]
 ·rw [ae (by simpa using hw)];have hy1:wz y=1/\wz y'=2:=by
   rcases yM y with ⟨_,q1⟩|⟨q1,q2⟩
   ·rcases yM y' with ⟨_,q3⟩|⟨_,q3⟩
    ·rw [q1,q3] at hw; exact absurd rfl hw
    ·exact ⟨q1,q3⟩
   ·have:=Bu q1 (gi r) x;rw [hy'] at this;unfold wz at hw;rw [this,q1] at hw;exact absurd rfl hw
  simp only [hv2.p,bsm];rw [jj (cR hv2.p)];simp only [bsm];have hv3:=hv2.set c q.Auto;have hc3:((s.sc j ⟨c,wz y',b',y'⟩).sp k ⟨some g,c,q.Auto⟩).widen_Cluster[j]? = some ⟨c,wz y',b',y'⟩:=qU hj;rw [hc3];simp only [bsm];rw [BF e2];simp only [bsm];obtain ⟨s4,q4,ks4,i,a,p1,p2,p3,p4,p5,p6,p7,_⟩:=AB hv3 (wz y') (t++ [gi r]) htl;rw [p2];simp only [bsm];have hc4:s4.widen_Cluster[j]? = some ⟨c,wz y',b',y'⟩:=by
   rw [uD p4.o];exact hc3
  rw [hc4];simp only [bsm];rw [ut (cR hc4)];refine ⟨_,q4,_,ks4,rfl,⟨p4.self.sc _ _,?_,⟨b',qU (cR hc4),e2⟩,p5.trans h.n,?_⟩,⟨⟨(i:Int),(a:Int),false⟩,wz y',b',y'⟩,?_⟩
  ·have h3:=p4.f;have:=h.f.trans h.v.oG h.v.oR (h3.rgp (C':=s) ⟨rfl,rfl,rfl⟩ (Rgp.self _));exact this.rgp (Rgp.self _) ⟨rfl,rfl,rfl⟩
  ·rw [<-p3];exact (Ci h0 (by omega) htl (by rw [hy1.1,BG _ w1]) h.p h.v (h.n.trans hH.symm)).symm
  ·have:=gY (fun y:Sto=>y.sc j ⟨⟨(i:Int),(a:Int),false⟩,wz y',b',y'⟩) p4.o;refine this.trans ?_;show (((s.sc _ _).sc _ _).oth)=_;rw [xu]
def gf (t:List Int) (x:List aw):bG:=(t.zip x).foldl (fun y p=>gz y p.1 p.2) ⟨false,false,false⟩
theorem yL {α β:Type}:∀(t:List α) (x:List β) (r:α) (h:t.length<x.length),(t++ [r]).zip x=t.zip x++ [(r,x[t.length])]
 | [],[],_,h=>by simp at h
 | [],b::x,r,_=>by simp
 | a::t,[],_,h=>by simp at h
 | a::t,b::x,r,h=>by
  have:=yL t x r (by simpa using h);simp only [cv,yH,this,aK,HH]
theorem vJ {t:List Int}{x:List aw}(h:t.length<x.length) (r:Int):gf (t++ [r]) x=gz (gf t x) r x[t.length]:=by
 unfold gf;rw [yL t x r h,lU];rfl
theorem yK {α β:Type}:∀(t:List α) (x:List β) (n:Nat),t.length<=n->t.zip (x.take n)=t.zip x
 | [],_,_,_=>rfl
 | _::_,[],_,_=>by simp
 | _::_,_::_,0,h=>by simp at h
 | a::t,b::x,n+1,h=>by
  rw [mW,yH,yH,yK t x n (by simpa using h)]
theorem FB (t:List Int) (x:List aw){n:Nat}(h:t.length<=n):gf t (x.take n)=gf t x:=by
 unfold gf;rw [yK _ _ _ h]
theorem Ay (b:Int) (zs:List Int) (hz:zs.length<=1000):∃t,cL (σ:=Int) (τ:=Int ⊕ Unit) (((zs.length:Int)-0).toNat+1) (fun s_9=>
 if (decide (s_9<(zs.length:Int)))=true then
 (idx zs s_9).bind fun x_19=>
 if (b==x_19)=true then
 some (.inr (.inl 0))
 else
 some (.inl ((w64 (s_9+1))))
 else
 some (.inr (.inr ()))) (0)=some t/\(match t with|.inl n=>n=0/\b∈zs|.inr _=>b∉zs):=by
 refine ep (n:=zs.length) (fun i s=>s=(i:Int)/\∀k (h:k<zs.length),k<i->zs[k]≠b) (fun t:Int ⊕ Unit=>match t with|.inl n=>n=0/\b∈zs|.inr _=>b∉zs) (fun i s hi he=>?_) (fun s he=>?_) ⟨rfl,fun k h hk=>by omega⟩ (by omega)
 ·obtain ⟨e,hI⟩:=he;subst e;rw [ae (dlt hi),bp hi,dL hi (by omega)];simp only [bsm];by_cases hx:b=zs[i]
  ·rw [ae (by simpa using hx)];exact .inr ⟨_,rfl,rfl,hx▸ aF hi⟩
  ·rw [af (by simpa using hx)];refine .inl ⟨_,rfl,rfl,fun k h hk=>?_⟩;by_cases hki:k=i
   ·subst hki; exact fun e=>hx e.symm
   ·exact hI k h (by omega)
 ·obtain ⟨e,hI⟩:=he;subst e;refine ⟨.inr (),by rw [af (by simp)],fun hb=>?_⟩;obtain ⟨i,hi,e⟩:=List.mem_iff_getElem.1 hb;exact hI i hi hi e
theorem DA (x:aw):∃n,iz x=some n/\(n==2)=b2 x:=by
 unfold iz;obtain ⟨t,h1,h2⟩:=Ay x.Break [1,2,3,4,5,10,11] (by decide);rw [h1];have hz:zb x.Break=true↔x.Break∈([1,2,3,4,5,10,11]:List Int):=by simp [zb]; omega
 unfold b2
 cases t with
 | inl n=>
  obtain ⟨rfl,hm⟩:=h2;exact ⟨0,rfl,by rw [hz.2 hm]; rfl⟩
 | inr u=>
  have hf:zb x.Break=false:=by rw [<-un,hz]; exact h2
  simp only [bD,bsm,hf]
  cases h:(x.East==1 || x.East==2) with
  | true=>exact ⟨2,by simp,rfl⟩
  | false=>exact ⟨1,by simp,rfl⟩
theorem HX (t:List Int) (x:List aw) (h:t.length<=x.length) (ht:t.length<=1000000):gS t x=some (wz (gf t x)):=by
 unfold gS;have key:∀i,i<=t.length->(gf (t.take i) x).some=decide (0<i)/\(∀(h1:0<i) (h2:i-1<x.length),(gf (t.take i) x).pict=x[i-1].Pict):=fun i hi=>by
  cases i with
  | zero=>exact ⟨rfl,fun h=>absurd h (by decide)⟩
  | succ i=>
   have hl:(t.take i).length=i:=by rw [ay]; omega
   rw [ax (by omega),vJ (by rw [hl]; omega)];exact ⟨by simp [gz],fun _ _=>by simp [gz,hl]⟩
 have mono:∀i,i<=t.length->(gf (t.take i) x).wide=true->(gf t x).wide=true:=fun i hi hw=>by
  have:∀m,i<=m->m<=t.length->(gf (t.take m) x).wide=true:=by
   intro m
   induction m with
   | zero=>intro h1 _; rw [show i=0 by omega] at hw; exact hw
   | succ m ih=>
    intro h1 h2;by_cases e:i=m+1
    ·rw [<-e]; exact hw
    ·rw [ax (by omega),vJ (by rw [ay]; omega)];exact Bu (ih (by omega) (by omega)) _ _
  have:=this t.length hi (az _)
  rwa [aC (az _)] at this
 refine lP (n:=t.length) (fun i s=>s=(i:Int)/\(gf (t.take i) x).wide=false) (fun u=>match u with|.inl n=>n=2/\(gf t x).wide=true|.inr _=>(gf t x).wide=false) (fun i s hi ⟨e,hI⟩=>?_) (fun s ⟨e,hI⟩=>?_) ⟨rfl,rfl⟩ (by omega) (fun u hu=>?_)
 ·subst e;have e5:=dL hi (by omega);have hx:i<x.length:=by omega
  obtain ⟨n,h1,h2⟩:=DA x[i];rw [ae (dlt hi),bp hx];simp only [bsm,h1,h2,e5,bp hi];have hl:(t.take i).length=i:=by rw [ay]; omega
  have hs:(gf (t.take (i+1)) x).wide=(b2 x[i] || (decide (0<i) && ((t[i]==65039 && (gf (t.take i) x).pict) || x[i].Pict || x[i].Break==6))):=by
   rw [ax hi,vJ (by rw [hl]; omega)];simp only [gz,hI,jv,(key i (by omega)).1,hl]
  have hd:∀(A:Option Bool),(∀(h0:0<i),A=some ((t[i]==65039 && x[i-1].Pict) || x[i].Pict || x[i].Break==6))->
    (orE (b2 x[i]) ((bT (decide ((i:Int)>0)) A).bind fun d_21=>some d_21))=some (gf (t.take (i+1)) x).wide:=fun A hA=>by
   rw [hs];by_cases h0:0<i
   ·rw [hA h0,show decide ((i:Int)>0)=true by simp; omega,ip,show decide (0<i)=true by simpa using h0,(key i (by omega)).2 h0 (by omega)];simp only [bsm,bD,dH]
   ·rw [show decide ((i:Int)>0)=false by simp; omega,iF,show decide (0<i)=false by simpa using h0];simp only [bsm,bD,mw]
  rw [hd _ (fun h0=>by
   rw [show w64 ((i:Int)-1)=((i-1:Nat):Int) by rw [aG (by omega)]; omega,bp (show i-1<x.length by omega)];simp only [bsm,bi,bD])]
  simp only [bsm]
  cases hw:(gf (t.take (i+1)) x).wide with
  | true=>exact .inr ⟨.inl 2,rfl,rfl,mono (i+1) (by omega) hw⟩
  | false=>exact .inl ⟨_,rfl,rfl,rfl⟩
 ·subst e;rw [aC (az _)] at hI;exact ⟨.inr (),by rw [af (by simp)],hI⟩
 ·unfold wz
  cases u with
  | inl n=>
   obtain ⟨rfl,hw⟩:=hu;rw [hw];rfl
  | inr u=>
   simp only at hu;rw [hu];rfl
end Go.Proofs.YtclmdpamofdoiaaGreatDoor
namespace Go.Proofs.YtclmdpamofdoiaaGreatDoor
open Go Go.Lt
variable {s C:Sto}{g k W:Nat}{ks:List Nat}{q:aa}
def bls (W H:Nat):List aj:=List.replicate H ⟨List.replicate W bl,false⟩
theorem Eo {W H:Nat}(w1:1<=W) (w2:W<=1024) (h1:1<=H):∀i (h:i<(bls W H).length),1<=(bls W H)[i].Cells.length/\(bls W H)[i].Cells.length<=1024/\Snd (bls W H)[i].Cells/\(bls W H)[i].Cells.length=((bls W H)[0]'(by omega)).Cells.length:=fun i h=>by
 have e:∀j (hj:j<(bls W H).length),(bls W H)[j]=⟨List.replicate W bl,false⟩:=fun j hj=>by
  unfold bls;exact jt _
 rw [e i h,e 0 (by omega)];simp only [lM];exact ⟨w1,w2,uq W,trivial⟩
theorem zB (n m:Int):mV s n m=some ((s.addr ((bls (sd n) (sd m)).map lr)).add_grid_Grid ⟨(List.range' s.row_Row.length (sd m)).map some⟩,some s.grid_Grid.length):=by
 have hsd:=tF m;have hL:∀i,((bls (sd n) (sd m)).map lr).take i=List.replicate (min i (sd m)) ⟨List.replicate (sd n) bl,false⟩:=fun i=>by
  unfold bls;rw [List.map_replicate,List.take_replicate];rfl
 have hlen:((bls (sd n) (sd m)).map lr).length=sd m:=by simp [bls]
 have hH:aE 1 (aB m 1024)=(sd m:Int):=by
  rw [dF,fq];unfold sd;omega
 unfold mV;rw [hH];simp only [bsm];obtain ⟨t,h3,h4⟩:=ep (σ:=Int×Sto) (τ:=Sto) (n:=sd m) (fuel:=(((sd m:Nat):Int)-0).toNat+1) (s:=(0,s.add_grid_Grid (⟨([]:List (Option Nat))⟩:cm)))
  (fun i q=>q=((i:Int),(s.addr (((bls (sd n) (sd m)).map lr).take i)).add_grid_Grid ⟨(List.range' s.row_Row.length i).map some⟩))
  (fun t=>t=(s.addr ((bls (sd n) (sd m)).map lr)).add_grid_Grid ⟨(List.range' s.row_Row.length (sd m)).map some⟩)
  (step:=fun s_12=>
 if (decide (s_12.1<((sd m:Nat):Int)))=true then
 (s_12.2.grid_Grid[s.grid_Grid.length]?).bind fun o_19=>
 (kU s_12.2 n).bind fun x_21=>
 (app o_19.rows ([x_21.2]:List (Option Nat))).bind fun x_23=>
 (x_21.1.set_grid_Grid s.grid_Grid.length (⟨x_23⟩:cm)).bind fun s_26001=>
 some (.inl ((w64 (s_12.1+1)),s_26001))
 else
 some (.inr (s_12.2)))
  (fun i q hi e=>by
   subst e;refine .inl ⟨_,?_,rfl⟩;have e5:w64 ((i:Int)+1)=((i+1:Nat):Int):=by rw [aG (by omega)]; simp
   have hd:decide ((i:Int)<((sd m:Nat):Int))=true:=by simp; exact hi
   have hg:((s.addr (((bls (sd n) (sd m)).map lr).take i)).add_grid_Grid ⟨(List.range' s.row_Row.length i).map some⟩).grid_Grid[s.grid_Grid.length]? = some ⟨(List.range' s.row_Row.length i).map some⟩:=by
    simp [Sto.add_grid_Grid,Sto.addr]
   simp only [hd,bz];rw [hg,xZ];simp only [bsm];rw [cU (by simp; omega)];simp only [bsm];have hlt:s.grid_Grid.length<(((s.addr (((bls (sd n) (sd m)).map lr).take i)).add_grid_Grid ⟨(List.range' s.row_Row.length i).map some⟩).add_row_Row ⟨List.replicate (sd n) bl,false⟩).grid_Grid.length:=by
    simp [Sto.add_grid_Grid,Sto.addr,Sto.add_row_Row]
   rw [yV hlt,e5];simp only [bsm]
   congr 4
   refine Gu ?_ ?_ rfl
   ·simp only [Sto.sg,Sto.add_grid_Grid,Sto.add_row_Row,Sto.addr];rw [hL,hL,cH (by omega),cH (by omega),wS,aO]
   ·simp only [Sto.sg,Sto.add_grid_Grid,Sto.add_row_Row,Sto.addr];rw [oC _ _ (az _),oh,rO,Jg,bU,hL,cH (by omega)];simp)
  (fun q e=>⟨q.2,by subst e; simp,by subst e; simp only; rw [aC (by omega)]⟩)
  (by simp [Ad]) (by omega)
 subst h4;rw [h3];rfl
theorem Fr.of_grid (xs:List br) (x:cm){n:Nat}(hn:n=s.grid_Grid.length){m:Nat}:Fr s ((s.addr xs).add_grid_Grid x) k n (List.range' s.row_Row.length m):=by
 subst hn;refine Fr.new (az _) ?_ ?_ (fun _ _=>rfl) (fun j hj=>?_) (fun j hj=>?_) (az _) (fun r hr=>(List.mem_range'_1.1 hr).1)
 ·simp [Sto.add_grid_Grid,Sto.addr]
 ·simp [Sto.add_grid_Grid,Sto.addr]
 ·simp only [Sto.add_grid_Grid,Sto.addr]; exact aL hj
 ·simp only [Sto.add_grid_Grid,Sto.addr]; exact aL hj
theorem Gw.addp (h:Gw s g ks W) (x:bv):Gw (s.add_place_Pen x) g ks W:=⟨h.g,h.r,h.h1,h.h2,h.w1,h.w2⟩
theorem Ck (n m:Int):∃s' ks,nf s n m=some (s',some s.place_Pen.length)/\Pv s s' s.place_Pen.length s.grid_Grid.length (sd n) ⟨bls (sd n) (sd m),⟨0,0,false⟩,true⟩ ks:=by
 have h1:=tF n;have h2:=tF m;have hb:(bls (sd n) (sd m)).length=sd m:=by simp [bls]
 have h0:((bls (sd n) (sd m))[0]'(by omega)).Cells.length=sd n:=by simp [bls]
 obtain ⟨g1,g2⟩:=Ge (s:=s) (L:=bls (sd n) (sd m)) (by omega) (by omega) (Eo h1.1 h1.2 h2.1);rw [h0] at g1;rw [hb] at g1 g2;unfold nf;rw [zB];refine ⟨_,_,rfl,⟨?_,g1.addp _,?_,?_,rfl,(Fr.of_grid _ _ rfl).addp _⟩⟩
 ·simp [Sto.add_place_Pen,Sto.add_grid_Grid,Sto.addr]
 ·exact Jp
 ·exact g2
theorem Ce {W H:Nat}(w2:W<=1024) (h2:H<=1024):gQ W H=some (bls W H):=by
 unfold gQ;obtain ⟨t,h3,h4⟩:=ep (σ:=(List aj)×Int) (τ:=(List aj)) (n:=H) (fuel:=((H:Int)-0).toNat+1) (s:=(([]:List aj),0))
  (fun i q=>q=(bls W i,(i:Int))) (fun t=>t=bls W H)
  (step:=fun s_7=>
 if (decide (s_7.2<(H:Int)))=true then
 (rep (W:Int) (⟨0,([]:List Int)⟩:ab)).bind fun x_14=>
 (app s_7.1 ([(⟨x_14,false⟩:aj)]:List aj)).bind fun x_17=>
 some (.inl (x_17,(w64 (s_7.2+1))))
 else
 some (.inr (s_7.1)))
  (fun i q hi e=>by
   subst e;refine .inl ⟨_,?_,rfl⟩;have e5:w64 ((i:Int)+1)=((i+1:Nat):Int):=by rw [aG (by omega)]; simp
   have hd:decide ((i:Int)<(H:Int))=true:=by simp; exact hi
   simp only [hd,bz,e5];rw [oF _ (by omega)];simp only [bsm];rw [cU (by simp [bls]; omega)];simp only [bsm];unfold bls;rw [wS];rfl)
  (fun q e=>⟨_,by subst e; simp,rfl⟩)
  rfl (by omega)
 subst h4;rw [h3];rfl
def sil (r:Int):Bool:=(decide (0<=r) && decide (r<32)) || (decide (127<=r) && decide (r<=159))
theorem Dd (r:Int):jJ r=some (sil r):=by
 simp only [jJ,bi,bD,bsm,sil,AK]
theorem mQ (r:Int):dy r=some (sil r):=by
 simp only [dy,bi,bD,bsm,sil,AK,aV];rw [cu];simp;omega
theorem xw (r:Int) (h:r≠13/\r≠10/\r≠8):cI q r=some (q,sil r):=by
 unfold cI;rw [af (by simpa using h.1)];simp only [bsm];rw [af (by simpa using h.2.1)];simp only [bsm];rw [af (by simpa using h.2.2)];simp only [bsm];rw [mQ];rfl
theorem FM (h:Pv C s k g W q ks) (r:Int):∃s' q' ks',pi s (some k) r=some (s',sil r)/\cI q r=some (q',sil r)/\Pv C s' k g W q' ks'/\ks'.length=ks.length/\(Hd q.At W ks.length->Hd q'.At W ks.length):=by
 have w1:=h.g.w1;have w2:=h.g.w2;unfold pi;rw [Dd];simp only [bsm,bO,ez,h.p];by_cases hs:sil r=true
 ·rw [hs];simp only [dk,ak,ba];rw [jB h.g,eW h.g];simp only [bsm];rw [pu _ h.g.w1 h.g.w2 h.g.h1 h.g.h2];have hd:=tR q.At h.g.w1 h.g.h1;have hh:=oW h;by_cases h13:r=13
  ·subst h13;simp only [bsm,oO,bz,dE];rw [jj (cR h.p)];refine ⟨_,_,ks,rfl,?_,h.set ⟨(hc q.At W ks.length).Row,0,false⟩ q.Auto,rfl,fun _=>⟨hd.rr,by simp only; omega,fun e=>by cases e⟩⟩;unfold cI;rw [hh,mQ,hs];rfl
  by_cases h10:r=10
  ·subst h10;obtain ⟨s',q',ks',a1,a2,v,hn,hnd,_⟩:=wi h;simp only [bsm];rw [af (by decide),ae (by decide),a1];refine ⟨s',q',ks',rfl,?_,v,hn,fun _=>hnd⟩;unfold cI;rw [af (by decide)];simp only [bsm];rw [ae (by decide),show (⟨q.L,⟨q.At.Row,q.At.Col,q.At.Pending⟩,q.Auto⟩:aa)=q from rfl,a2];simp only [bsm];rw [af (by decide),mQ,hs];rfl
  by_cases h8:r=8
  ·subst h8;have hcc:=hd.cc;have hb:lB (hc q.At W ks.length)=some ⟨(hc q.At W ks.length).Row,max 0 ((hc q.At W ks.length).Col-1),false⟩:=by
    unfold lB;by_cases h0:(hc q.At W ks.length).Col>0
    ·rw [ae (by simpa using h0),aG (by omega)];simp only [bsm,aV,ai.mk.injEq,vP,wQ];omega
    ·rw [af (by simpa using h0)];simp only [bsm,aV,ai.mk.injEq,vP,wQ];omega
   simp only [bsm];rw [af (by decide),af (by decide),ae (by decide),hb];simp only [bsm];rw [jj (cR h.p)];refine ⟨_,_,ks,rfl,?_,h.set ⟨(hc q.At W ks.length).Row,max 0 ((hc q.At W ks.length).Col-1),false⟩ q.Auto,rfl,fun _=>⟨hd.rr,by simp only; omega,fun e=>by cases e⟩⟩;unfold cI;rw [af (by decide)];simp only [bsm];rw [af (by decide)];simp only [bsm];rw [ae (by decide),show (⟨q.L,⟨q.At.Row,q.At.Col,q.At.Pending⟩,q.Auto⟩:aa)=q from rfl,hh];simp only [bsm];rw [mQ,hs,aG (by omega),fq];rfl
  ·simp only [bsm];rw [af (by simpa using h13),af (by simpa using h10),af (by simpa using h8)];exact ⟨s,q,ks,rfl,by rw [xw r ⟨h13,h10,h8⟩,hs],h,rfl,id⟩
 ·have hf:sil r=false:=by simpa using hs
  rw [hf];simp only [eL,bz];have hn:r≠13/\r≠10/\r≠8:=by
   refine ⟨?_,?_,?_⟩ <;> (rintro rfl; revert hf; decide)
  exact ⟨s,q,ks,rfl,by rw [xw r hn,hf],h,rfl,id⟩
end Go.Proofs.YtclmdpamofdoiaaGreatDoor
namespace Go.Proofs.YtclmdpamofdoiaaGreatDoor
open Go Go.Lt
def pj (a b:Int):Int:=(gp a b).getD 0
def clz (a:Int):Int:=if a<0\/13<a then 0 else a
def pjT (i j:Nat):Bool:=match gp i j,dg i j with
  | some x,some y=>x==y && (x != 2 || ((i==6)==(j==6))) && (x==0 || !(i==1 || i==2 || i==3 || j==1 || j==2 || j==3) || (i==1 && j==2))
  | _,_=>false
theorem GO:((List.range 14).all fun i=>(List.range 14).all fun j=>pjT i j)=true:=by kernel_rfl
theorem BD (a:Int):∃i:Nat,clz a=(i:Int)/\i<14/\(0<i->a=(i:Int)):=by
  unfold clz;split
  · exact ⟨0,rfl,by omega,fun h=>by omega⟩
  · exact ⟨a.toNat,by omega,by omega,fun _=>by omega⟩
theorem nc (a:Int):jp a=some (clz a):=by
  unfold jp clz;simp only [bD,bsm];by_cases h:a<0\/13<a
  · rw [ae (by simp only [aD,an]; omega),ae h]
  · rw [af (by simp only [aD,an]; omega),af h]
theorem vK (a:Int):clz (clz a)=clz a:=by
  unfold clz
  repeat' split
  all_goals omega
theorem Co (a b:Int):gp a b=gp (clz a) (clz b):=by
  unfold gp;rw [nc,nc,nc,nc,vK,vK]
theorem Cf (a b:Int):dg a b=dg (clz a) (clz b):=by
  have h:∀(a:Int),((orE (decide (a<0)) (some (decide (a>13)))).bind fun d_6=>if d_6=true then (some (0):Option (Int)) else (some (a):Option (Int)))=some (clz a):=fun a=>by
    have:=nc a;unfold jp at this;exact this
  unfold dg;rw [h,h,h,h,vK,vK]
theorem we (a b:Int):∃x,gp a b=some x/\dg a b=some x/\pj a b=x/\(x=2->(a=6↔b=6))/\(x≠0->(a=1\/a=2\/a=3\/b=1\/b=2\/b=3)->a=1/\b=2):=by
  obtain ⟨i,hi,i14,i0⟩:=BD a;obtain ⟨j,hj,j14,j0⟩:=BD b;have h:=List.all_eq_true.1 (List.all_eq_true.1 GO i (List.mem_range.2 i14)) j (List.mem_range.2 j14);have ia:∀n:Nat,0<n->n<14->(a=(n:Int)↔i=n):=fun n h0 h1=>by
    constructor
    · intro e
      unfold clz at hi;split at hi <;> omega
    · intro e; subst e; exact i0 h0
  have jb:∀n:Nat,0<n->n<14->(b=(n:Int)↔j=n):=fun n h0 h1=>by
    constructor
    · intro e
      unfold clz at hj;split at hj <;> omega
    · intro e; subst e; exact j0 h0
  have a1:=ia 1 (by omega) (by omega);have a2:=ia 2 (by omega) (by omega);have a3:=ia 3 (by omega) (by omega);have a6:=ia 6 (by omega) (by omega);have b1:=jb 1 (by omega) (by omega);have b2:=jb 2 (by omega) (by omega);have b3:=jb 3 (by omega) (by omega);have b6:=jb 6 (by omega) (by omega);unfold pj;rw [Co,Cf,hi,hj];unfold pjT at h;split at h
  · rename_i x y e1 e2
    simp only [av,aD,aT,nz,xB,dI,wU,dA] at h;obtain ⟨⟨hxy,h2⟩,h3⟩:=h;subst hxy;refine ⟨x,e1,e2,by rw [e1]; rfl,fun hx=>?_,fun hx hc=>?_⟩
    · rcases h2 with q|q
      · exact absurd hx q
      · have q1:(i==6)=(j==6):=q
        rw [cu,aT,aT] at q1;omega
    · rcases h3 with (q|q)|q
      · exact absurd q hx
      · exfalso
        omega
      · omega
  · cases h
theorem E8 (a b:Int):gp a b=some (pj a b):=by
  obtain ⟨x,h1,_,h3,_⟩:=we a b;rw [h1,h3]
theorem GN (a b:Int):dg a b=some (pj a b):=by
  obtain ⟨x,_,h2,h3,_⟩:=we a b;rw [h2,h3]
theorem GM (a b:Int) (h:pj a b=2):a=6↔b=6:=by
  obtain ⟨x,_,_,h3,h4,_⟩:=we a b;exact h4 (by omega)
def sgB (s:Sg):cQ:=⟨s.some,s.last,s.pict,s.conj,s.odd⟩
theorem Dk (s:Sg) (p:aw):dm (sgB s) p=some (sgB (sgN s p),sgJ pj s p):=by
  have hj:de (sgB s) p=some (sgJ pj s p):=by
    unfold de sgB sgJ;simp only [bi,bsm,E8]
    cases s.some with
    | false=>rfl
    | true=>
      simp only [dk,ak,ba,dH]
      cases h1:(p.Conj==1 && s.conj==2) with
      | true=>rfl
      | false=>
        simp only [ak,ba,bsm,jv]
        cases h2:(p.Pict && s.pict==2) with
        | true=>rfl
        | false=>
          simp only [ak,ba,jv];by_cases h3:pj s.last p.Break=1
          · rw [ae (by simpa using h3),h3]
            rfl
          · rw [af (by simpa using h3),show (pj s.last p.Break==1)=false by simpa using h3,jv]
            by_cases h4:pj s.last p.Break=2
            · rw [ae (by simpa using h4),h4]
              rfl
            · rw [af (by simpa using h4),show (pj s.last p.Break==2)=false by simpa using h4]
              rfl
  have hp:cW (sgB s) p=some (nxP s.pict p):=by
    unfold cW sgB nxP;simp only [bi,bsm];by_cases h1:p.Pict=true
    · rw [ae h1,ae h1]
    · rw [af h1,af h1]
      by_cases h2:s.pict=1/\p.Break=4
      · rw [ae (by simpa using h2),ae h2]
      · rw [af (by simpa using h2),af h2]
        by_cases h3:s.pict=1/\p.Break=5
        · rw [ae (by simpa using h3),ae h3]
        · rw [af (by simpa using h3),af h3]
  have hc:cN (sgB s) p=some (nxC s.conj p):=by
    unfold cN sgB nxC;simp only [aT]
    repeat' split
    all_goals rfl
  unfold dm;simp only [ak,ba];rw [hj,hp,hc];simp only [bsm,bi];rfl
theorem xr (d:cQ):dM d=some (sgB sg0):=rfl
theorem qQ {α:Type}{l:List α}{k:Nat}(h:k<l.length):(l.take (k+1)).reverse=l[k]::(l.take k).reverse:=by
  rw [ax h,List.reverse_append];rfl
theorem FQ (x:aw) (l:List aw) (n:Nat):cj (x::l) n=if x.Conj=1 then decide (0<n) else if x.Conj=2 then cj l (n+1) else if x.Conj=3 then cj l n else false:=rfl
theorem E7 (x:aw) (l:List aw):pk (x::l)=if x.Pict=true then true else if x.Break=4 then pk l else false:=rfl
theorem E1 (x:aw) (l:List aw):ri (x::l)=if x.Break=6 then ri l+1 else 0:=rfl
theorem AA {P:List aw}(hP:P.length<=1000000){i:Nat}(hi:i<P.length):eH P i=some (P[i].Conj==1 && cj (P.take i).reverse 0):=by
  unfold eH;rw [bp hi];simp only [bsm];by_cases h1:P[i].Conj=1
  · rw [af (by simpa using h1),show (P[i].Conj==1)=true by simpa using h1,dH]
    have e1:w64 ((i:Int)-1)=(i:Int)-1:=aG (by omega);rw [e1];refine xG (fun s=>∃k n:Nat,s=((n:Int),(k:Int)-1)/\k<=i/\n+k<=i/\cj (P.take k).reverse n=cj (P.take i).reverse 0) (fun s=>(s.2+1).toNat) (fun u=>(match u with|.inl b=>b|.inr _=>false)=cj (P.take i).reverse 0) (fun s hs=>?_) ⟨i,0,rfl,az _,by omega,rfl⟩ (by simp only; omega) (fun u hu=>?_)
    · obtain ⟨k,n,rfl,hk,hn,hI⟩:=hs
      simp only
      cases k with
      | zero=>
        rw [af (by simp)];exact .inr ⟨_,rfl,by rw [<-hI]; rfl⟩
      | succ k=>
        have e2:((k+1:Nat):Int)-1=(k:Int):=by omega
        have hkl:k<P.length:=by omega
        rw [qQ hkl] at hI;rw [FQ] at hI;rw [e2,ae (by simp),bp hkl];simp only [bsm];by_cases c1:P[k].Conj=1
        · rw [ae (by simpa using c1)]
          rw [ae c1] at hI;exact .inr ⟨_,rfl,by rw [<-hI]; simp⟩
        · rw [af (by simpa using c1)]
          rw [af c1] at hI;have e3:w64 ((k:Int)-1)=(k:Int)-1:=aG (by omega);have e4:w64 ((n:Int)+1)=((n+1:Nat):Int):=by rw [aG (by omega)]; simp
          simp only [bi,bsm,e3,e4];by_cases c2:P[k].Conj=2
          · rw [ae (by simpa using c2)]
            simp only [bsm];rw [af (by simp [c2])];rw [ae c2] at hI;exact .inl ⟨_,rfl,⟨k,n+1,rfl,by omega,by omega,hI⟩,by simp only; omega⟩
          · rw [af (by simpa using c2)]
            rw [af c2] at hI;simp only [bsm];by_cases c3:P[k].Conj=3
            · rw [af (by simp [c3])]
              rw [ae c3] at hI;exact .inl ⟨_,rfl,⟨k,n,rfl,by omega,by omega,hI⟩,by simp only; omega⟩
            · rw [ae (by simp [c2,c3])]
              rw [af c3] at hI;exact .inr ⟨_,rfl,by rw [<-hI]⟩
    · cases u with
      | inl b=>simp only at hu|-; rw [hu]
      | inr u=>simp only at hu|-; rw [hu]
  · rw [ae (by simpa using h1),show (P[i].Conj==1)=false by simpa using h1]
    rfl
theorem Az {P:List aw}(hP:P.length<=1000000){i:Nat}(hi:i<P.length) (h0:1<=i):fg P i=some (P[i].Pict && (!(P[i-1]'(by omega)).Pict && (P[i-1]'(by omega)).Break==5 && pk (P.take (i-1)).reverse)):=by
  have e1:w64 ((i:Int)-1)=((i-1:Nat):Int):=by rw [aG (by omega)]; omega
  unfold fg;rw [bp hi,e1,bp (show i-1<P.length by omega)];simp only [bsm,bD];by_cases hc:P[i].Pict=true/\2<=i/\(P[i-1]'(by omega)).Break=5/\(P[i-1]'(by omega)).Pict=false
  · obtain ⟨c1,c2,c3,c4⟩:=hc
    rw [af (by rw [c1,c3,c4]; simp; omega),c1,c3,c4];simp only [eL,oO,dH];have e2:w64 ((i:Int)-2)=((i-1:Nat):Int)-1:=by rw [aG (by omega)]; omega
    rw [e2];refine xG (fun s=>∃k:Nat,s=(k:Int)-1/\k<=i-1/\pk (P.take k).reverse=pk (P.take (i-1)).reverse) (fun s=>(s+1).toNat) (fun u=>(match u with|.inl b=>b|.inr _=>false)=pk (P.take (i-1)).reverse) (fun s hs=>?_) ⟨i-1,rfl,az _,rfl⟩ (by omega) (fun u hu=>?_)
    · obtain ⟨k,rfl,hk,hI⟩:=hs
      cases k with
      | zero=>
        rw [af (by simp)];exact .inr ⟨_,rfl,by rw [<-hI]; rfl⟩
      | succ k=>
        have e2:((k+1:Nat):Int)-1=(k:Int):=by omega
        have hkl:k<P.length:=by omega
        rw [qQ hkl] at hI;rw [E7] at hI;rw [e2,ae (by simp),bp hkl];simp only [bsm];by_cases d1:P[k].Pict=true
        · rw [ae d1]
          rw [ae d1] at hI;exact .inr ⟨_,rfl,by rw [<-hI]⟩
        · rw [af d1]
          rw [af d1] at hI;by_cases d2:P[k].Break=4
          · rw [af (by simpa using d2),aG (by omega)]
            rw [ae d2] at hI;exact .inl ⟨_,rfl,⟨k,rfl,by omega,hI⟩,by omega⟩
          · rw [ae (by simpa using d2)]
            rw [af d2] at hI;exact .inr ⟨_,rfl,by rw [<-hI]⟩
    · cases u with
      | inl b=>simp only at hu|-; rw [hu]
      | inr u=>simp only at hu|-; rw [hu]
  · rw [ae ?_]
    · congr 1
      rw [eq_comm,Ag];intro hh;simp only [av,dI,aT] at hh;obtain ⟨g1,⟨g2,g3⟩,g4⟩:=hh;by_cases h2:2<=i
      · exact hc ⟨g1,h2,g3,g2⟩
      · rw [show i-1=0 by omega] at g4
        simp [pk] at g4
    · simp only [aD,dI,an,nz,xB]
      by_cases g1:P[i].Pict=true
      · by_cases g2:2<=i
        · by_cases g3:(P[i-1]'(by omega)).Break=5
          · right
            cases g4:(P[i-1]'(by omega)).Pict with
            | true=>rfl
            | false=>exact absurd ⟨g1,g2,g3,g4⟩ hc
          · exact .inl (.inr g3)
        · exact .inl (.inl (.inr (by omega)))
      · exact .inl (.inl (.inl (by simpa using g1)))
theorem DB {P:List aw}(hP:P.length<=1000000){i:Nat}(hi:i<P.length):(cL (σ:=Int×Int) (τ:=Int) (((w64 ((i:Int)-1))-0).toNat+2) (fun s_62=>
 (bT (decide (s_62.2>=0)) ((idx P s_62.2).bind fun x_69=>
 some (x_69.Break==6))).bind fun d_65=>
 if d_65=true then
 some (.inl ((w64 (s_62.1+1)),(w64 (s_62.2-1))))
 else
 some (.inr (s_62.1))) (0,(w64 ((i:Int)-1))))=some (ri (P.take i).reverse:Int):=by
  have e1:w64 ((i:Int)-1)=(i:Int)-1:=aG (by omega);rw [e1];obtain ⟨t,h1,h2⟩:=lX (σ:=Int×Int) (τ:=Int) (step:=fun s_62=>
 (bT (decide (s_62.2>=0)) ((idx P s_62.2).bind fun x_69=>
 some (x_69.Break==6))).bind fun d_65=>
 if d_65=true then
 some (.inl ((w64 (s_62.1+1)),(w64 (s_62.2-1))))
 else
 some (.inr (s_62.1))) (fun s=>∃k n:Nat,s=((n:Int),(k:Int)-1)/\k<=i/\n+k<=i/\n+ri (P.take k).reverse=ri (P.take i).reverse) (fun s=>(s.2+1).toNat) (fun t=>t=(ri (P.take i).reverse:Int)) (fun s hs=>by
      obtain ⟨k,n,rfl,hk,hn,hI⟩:=hs;simp only
      cases k with
      | zero=>
        rw [show decide (((0:Nat):Int)-1>=0)=false by simp,iF];exact .inr ⟨_,rfl,by rw [<-hI]; simp [ri]⟩
      | succ k=>
        have e2:((k+1:Nat):Int)-1=(k:Int):=by omega
        have hkl:k<P.length:=by omega
        rw [qQ hkl] at hI;rw [E1] at hI;rw [e2,show decide ((k:Int)>=0)=true by simp,ip,bp hkl];simp only [bsm];by_cases c1:P[k].Break=6
        · rw [ae (by simpa using c1),aG (by omega),aG (by omega)]
          rw [ae c1] at hI;exact .inl ⟨_,rfl,⟨k,n+1,by simp,by omega,by omega,by omega⟩,by simp only; omega⟩
        · rw [af (by simpa using c1)]
          rw [af c1] at hI;exact .inr ⟨_,rfl,by rw [<-hI]; simp⟩) ((((i:Int)-1)-0).toNat+2) (0,(i:Int)-1) ⟨i,0,rfl,az _,by omega,by omega⟩ (by simp only; omega)
  rw [h1,h2]
theorem zh {P:List aw}(hP:P.length<=1000000){i:Nat}(hi:i<P.length):eD P i=some (rj pj (P.take i).reverse P[i]):=by
  unfold eD;simp only [bD,bsm];by_cases h0:i=0
  · subst h0
    rw [ae (by simp)];rfl
  · obtain ⟨j,rfl⟩:∃j,i=j+1:=⟨i-1,by omega⟩
    rw [af (by simp; omega)];have e1:w64 (((j+1:Nat):Int)-1)=(j:Int):=by rw [aG (by omega)]; omega
    have hj:j<P.length:=by omega
    have hp:=Az hP hi (by omega);simp only [rN] at hp;have hr:=DB hP hi;rw [e1] at hr|-;rw [bp hj,bp hi];simp only [bsm,GN,AA hP hi,hp];simp only [bD,bsm];rw [qQ hj];unfold rj;simp only;rw [qQ hj] at hr;generalize hA:(pj P[j].Break P[j+1].Break==1 || (P[j+1].Conj==1 && cj (P[j]::(P.take j).reverse) 0) || (P[j+1].Pict && (!P[j].Pict && P[j].Break==5 && pk (P.take j).reverse)))=A
    cases A with
    | true=>simp
    | false=>
      simp only [ak,ba,jv];by_cases hc:pj P[j].Break P[j+1].Break=2/\P[j+1].Break=6
      · have b1:(pj P[j].Break P[j+1].Break==2)=true:=by rw [aT]; exact hc.1
        have b2:(P[j+1].Break==6)=true:=by rw [aT]; exact hc.2
        have b3:(pj P[j].Break P[j+1].Break != 2)=false:=by rw [bne,b1]; rfl
        have b4:(P[j+1].Break != 6)=false:=by rw [bne,b2]; rfl
        rw [af (by rw [b3,b4]; simp),hr];simp only [bsm,b1,b2,dH,aV];rw [cu,aT,aT,EI (by omega)];omega
      · rw [ae (by simp only [aD,nz,xB]; omega)]
        congr 1
        rw [eq_comm,Ag];simp only [xB,av,aT];exact fun h=>hc ⟨h.1.1,h.1.2⟩
def R32 (l:List Int):Prop:=∀x∈l,r32 x
theorem wb (l:List Int) (h:R32 l) (hl:l.length<=1000000):(cL (σ:=(List aw)×Int) (τ:=(List aw)) (((l.length:Int)-0).toNat+1) (fun s_7=>
 if (decide (s_7.2<(l.length:Int)))=true then
 (idx l s_7.2).bind fun x_16=>
 (dW x_16).bind fun x_18=>
 (app s_7.1 ([x_18]:List aw)).bind fun x_20=>
 some (.inl (x_20,(w64 (s_7.2+1))))
 else
 some (.inr (s_7.1))) (([]:List aw),0))=some (l.map pr):=by
  obtain ⟨t,h1,h2⟩:=ep (σ:=(List aw)×Int) (τ:=(List aw)) (n:=l.length) (fuel:=((l.length:Int)-0).toNat+1) (s:=(([]:List aw),0))
    (fun i s=>s=((l.take i).map pr,(i:Int))) (fun t=>t=l.map pr) (step:=fun s_7=>
 if (decide (s_7.2<(l.length:Int)))=true then
 (idx l s_7.2).bind fun x_16=>
 (dW x_16).bind fun x_18=>
 (app s_7.1 ([x_18]:List aw)).bind fun x_20=>
 some (.inl (x_20,(w64 (s_7.2+1))))
 else
 some (.inr (s_7.1)))
    (fun i s hi e=>by
      subst e;simp only;rw [ae (dlt hi),bp hi,dL hi (by omega)];simp only [bsm];rw [H1 _ (h _ (aF hi))];simp only [bsm];rw [cU (by simp; omega)];refine .inl ⟨_,rfl,?_⟩;rw [ax hi,bU];rfl)
    (fun s e=>by subst e; exact ⟨_,by simp only; rw [af (by simp)],by rw [aC (az _)]⟩)
    rfl (by omega)
  rw [h1,h2]
theorem DE (l:List Int) (h:R32 l) (hl:l.length<=1000000):fO l=some (l.map pr):=by
  unfold fO;rw [wb l h hl];rfl
theorem DT {l:List Int}(hl:l.length<=1000000){i:Nat}(hi:i<l.length):eD (l.map pr) i=some (jn pj pr (l.take i) l[i]):=by
  rw [zh (by simpa using hl) (by simpa using hi)];unfold jn;rw [GB pj GM,ek,List.map_take]
theorem BS (l:List Int) (h:R32 l) (hl:l.length<=1000000):fA l=some ((sts pj pr l).map fun n:Nat=>(n:Int)):=by
  unfold fA;rw [DE l h hl];simp only [bsm,dq];have hsl:∀l:List Int,(sts pj pr l).length<=l.length:=fun l=>by
    unfold sts;exact dt (vC _ _) (by simp)
  refine lP (n:=l.length) (fun i s=>s=((sts pj pr (l.take i)).map fun n:Nat=>(n:Int),(i:Int))) (fun u=>u=(sts pj pr l).map fun n:Nat=>(n:Int)) (fun i s hi e=>?_) (fun s e=>?_) rfl (by omega) (fun u hu=>by rw [hu])
  · subst e
    simp only;rw [ae (dlt hi),DT hl hi,dL hi (by omega)];simp only [bsm];rw [ax hi,vQ];have hle:=hsl (l.take i);rw [ay] at hle
    cases jn pj pr (l.take i) l[i] with
    | true=>
      simp only [dk,ak,ba,bsm,bz,eM];exact .inl ⟨_,rfl,rfl⟩
    | false=>
      simp only [eL,bz,ak,ba];rw [cU (by simp; omega)];refine .inl ⟨_,rfl,?_⟩;rw [bU,ay,cH (uT hi)];rfl
  · subst e
    exact ⟨_,by simp only; rw [af (by simp)],by rw [aC (az _)]⟩
theorem EP (l:List Int):(sts pj pr l++ [l.length]).Pairwise (· < ·):=by
  rw [List.pairwise_append];refine ⟨?_,by simp,fun a ha b hb=>?_⟩
  · unfold sts
    exact List.Pairwise.filter _ List.pairwise_lt_range
  · rw [List.mem_singleton.1 hb]
    exact Al ha
theorem zL (l:List Int) (h:R32 l) (hl:l.length<=1000000):eG l=some (cls pj pr l):=by
  have hsl:(sts pj pr l).length<=l.length:=by
    unfold sts;exact dt (vC _ _) (by simp)
  unfold eG;rw [BS l h hl];simp only [bsm];rw [cU (by simp; omega)];simp only [bsm];have e0:((sts pj pr l).map fun n:Nat=>(n:Int))++ [(l.length:Int)]=(sts pj pr l++ [l.length]).map fun n:Nat=>(n:Int):=by rw [bU]; rfl
  rw [e0,<-Fa (pj:=pj) (pr:=pr) l];have hinc:=EP l;have hAl:(sts pj pr l++ [l.length]).length=(sts pj pr l).length+1:=by simp
  have hle:∀a∈sts pj pr l++ [l.length],a<=l.length:=fun a ha=>by
    rcases List.mem_append.1 ha with ha|ha
    · exact uT (Al ha)
    · rw [List.mem_singleton.1 ha]; exact az _
  generalize sts pj pr l++ [l.length]=A at *;simp only [dq];have e1:w64 (0+1)=1:=rfl;rw [e1];refine lP (n:=A.length-1) (fun i s=>s=((List.range i).map (fun i=>slx l (A.getD i 0) (A.getD (i+1) 0)),(i:Int))) (fun u=>u=pcs l A) (fun i s hi e=>?_) (fun s e=>?_) rfl (by omega) (fun u hu=>by rw [hu])
  · subst e
    have hi1:i+1<A.length:=by omega
    simp only;rw [dL (show i<A.length by omega) (by omega),ae (by simp; omega)];rw [bp (show i<(A.map fun n:Nat=>(n:Int)).length by simp; omega),bp (show i+1<(A.map fun n:Nat=>(n:Int)).length by simp; omega)];simp only [bsm,ek];have hlt:=List.pairwise_iff_getElem.1 hinc i (i+1) (by omega) hi1 (by omega);have hb:=hle _ (aF hi1);rw [oE (by omega) hb];simp only [bsm];rw [cU (by simp; omega),bm];simp only [bsm];rw [cU (by simp; omega)];refine .inl ⟨_,rfl,?_⟩;rw [qe,bU];simp only [tu,HE,iq,wQ]
    congr 2
    unfold slx;have g:∀j (h:j<A.length),A.getD j 0=A[j]:=fun j h=>by rw [ao,ag h]; rfl
    rw [g i (by omega),g (i+1) hi1]
  · subst e
    refine ⟨_,?_,rfl⟩;simp only;rw [aG (by omega),af (by simp; omega)];rfl
def HT (n:Nat):Bool:= !sil n || (((pr n).Break==1 || (pr n).Break==2 || (pr n).Break==3) && !(pr n).Pict && (pr n).Conj==0)
theorem EV:(List.range 160).all HT=true:=by kernel_rfl
theorem Hc:gT.all (fun x=> !(x.2.2==1 || x.2.2==2) || (decide (0<=x.1) && decide (x.2.1<=31)))=true:=by kernel_rfl
theorem Gy {r:Int}(h:sil r=true):0<=r/\r<160:=by
  unfold sil at h;simp only [aD,av,an] at h;omega
theorem De:Sil pj pr sil:=by
  refine ⟨fun r hr=>?_,fun a b ha hne=>?_,fun a b hb hne=>?_,fun r hr=>?_⟩
  · obtain ⟨h1,h2⟩:=Gy hr
    have:=List.all_eq_true.1 EV r.toNat (List.mem_range.2 (by omega));unfold HT at this;rw [qm h1,hr] at this;simp only [dk,jv,av,aD,aT,dI] at this;obtain ⟨⟨q1,q2⟩,q3⟩:=this;exact ⟨by rcases q1 with (q|q)|q <;> simp [q],q2,q3⟩
  · obtain ⟨x,_,_,h3,_,h5⟩:=we a b
    exact h5 (by omega) (by omega)
  · obtain ⟨x,_,_,h3,_,h5⟩:=we a b
    exact h5 (by omega) (by omega)
  · have e:(pr r).Break=(lk gT r).getD (hcl r):=rfl
    rw [e] at hr;have hh:hcl r=9\/hcl r=10\/hcl r=11\/hcl r=0\/hcl r=12\/hcl r=13:=by
      unfold hcl
      repeat' split
      all_goals simp
    cases hx:fnd (fun x:Int×Int×Int=>x.1) (fun x=>x.2.1) gT r with
    | none=>
      unfold lk at hr;rw [hx] at hr;simp only [JA,Option.getD_none] at hr;omega
    | some x=>
      unfold lk at hr;rw [hx] at hr;simp only [fH,Option.getD_some] at hr;obtain ⟨m1,m2⟩:=yo hx;have:=List.all_eq_true.1 Hc x m1;rw [tL] at m2;simp only [aD,dI,wU,dA,av,an] at this;unfold sil;simp only [aD,av,an];omega
def fo {α β:Type}(f:β->α->Option β):β->List α->Option β
  | b,[]=>some b
  | b,a::l=>(f b a).bind fun b'=>fo f b' l
theorem D3 {α β:Type}(f:β->α->Option β) (b:β) (l m:List α):fo f b (l++m)=(fo f b l).bind fun b'=>fo f b' m:=by
  induction l generalizing b with
  | nil=>rfl
  | cons a l ih=>
    show (f b a).bind (fun b'=>fo f b' (l++m))=((f b a).bind fun b'=>fo f b' l).bind fun b'=>fo f b' m;rw [Jl]
    congr 1
    funext b'
    exact ih b'
theorem pP {α β:Type}(f:β->α->Option β) (b:β) (l:List α) (a:α):fo f b (l++ [a])=(fo f b l).bind fun b'=>f b' a:=by
  rw [D3]
  congr 1
  funext b'
  show (f b' a).bind (fun b'=>some b')=f b' a
  cases f b' a <;> rfl
theorem FC {α β:Type}{f:β->α->Option β}{b:β}{l:List α}{r:β}(h:fo f b l=some r) (i:Nat):∃q,fo f b (l.take i)=some q:=by
  rw [<-gZ i l,D3] at h
  cases hq:fo f b (l.take i) with
  | none=>rw [hq] at h; cases h
  | some q=>exact ⟨q,rfl⟩
theorem Bx {α β:Type}{f:β->α->Option β}{b:β}{l:List α}{r q:β}(h:fo f b l=some r){i:Nat}(hi:i<l.length) (hq:fo f b (l.take i)=some q):∃q',f q l[i]=some q'/\fo f b (l.take (i+1))=some q':=by
  obtain ⟨q',e⟩:=FC h (i+1);refine ⟨q',?_,e⟩;rw [ax hi,pP,hq] at e;exact e
def AP (q:aa) (r:Int):Option aa:=(cI q r).map (·.1)
def w16 (c:List Int):Int:=wz (gf (c.take 16) ((c.take 16).map pr))
def sX (q:aa) (c:List Int):Option aa:=
  if sil (c.headD 0)=true then fo AP q c else (be q (w16 c) (c.take 16)).map (·.1)
theorem tN {q:aa}{a:Int}{t:List Int}(h:sil a=true):sX q (a::t)=fo AP q (a::t):=by
  unfold sX;rw [ae (show sil ((a::t).headD 0)=true from h)]
theorem wm {q:aa}{a:Int}{t:List Int}(h:sil a=false):sX q (a::t)=(be q (w16 (a::t)) ((a::t).take 16)).map (·.1):=by
  unfold sX;rw [af (show ¬sil ((a::t).headD 0)=true by rw [JD,h]; simp)]
theorem zE (c:List Int) (hl:c.length<=1000000):eC c=some (c.take 16):=by
  unfold eC;have hmin:aB (c.length:Int) 16=((min c.length 16:Nat):Int):=by rw [dF]; omega
  have:=oE (xs:=c) (i:=0) (j:=min c.length 16) (cE _) (by omega);rw [show ((0:Nat):Int)=0 from rfl] at this;rw [hmin,this];simp only [bsm,jL,og];rw [cU (by simp; omega),bm];simp only [bsm];rw [show c.take (min c.length 16)=c.take 16 by rw [List.take_eq_take_iff]; omega]
theorem EM (c:List Int) (h:R32 c) (hl:c.length<=1000000) (hne:c≠ []):gE c=some (if sil (c.headD 0)=true then 0 else w16 c):=by
  cases c with
  | nil=>exact absurd rfl hne
  | cons a t=>
    unfold gE;rw [show idx (a::t) 0=some a from rfl];simp only [bsm,mQ];by_cases hs:sil a=true
    · rw [ae hs,ae (show sil ((a::t).headD 0)=true from hs)]
    · rw [af hs,af (show ¬sil ((a::t).headD 0)=true from hs),zE _ hl]
      simp only [bsm];have ht:((a::t).take 16).length<=16:=by rw [ay]; omega
      have hr:R32 ((a::t).take 16):=fun x hx=>h x (du hx);unfold jS;rw [wb _ hr (by omega)];simp only [bsm];rw [HX _ _ (by simp) (by omega)];rfl
theorem G2 {p q:aa}{l:List Int}(h:R32 l) (hl:l.length<=1000000) (hq:fo sX p (cls pj pr l)=some q):gO p l=some q:=by
  obtain ⟨hf,hne,_⟩:=rk (pj:=pj) (pr:=pr) l;have hmem:∀c∈(cls pj pr l),∀x∈c,x∈l:=fun c hc x hx=>by rw [<-hf]; exact List.mem_flatten.2 ⟨c,hc,hx⟩
  have hcl:∀c∈(cls pj pr l),c.length<=l.length:=fun c hc=>by
    obtain ⟨i,hi,rfl⟩:=List.mem_iff_getElem.1 hc;have e:(cls pj pr l).flatten=((cls pj pr l).take i).flatten++((cls pj pr l)[i]++((cls pj pr l).drop (i+1)).flatten):=by
      rw [<-lV,<-xk,<-gM hi,gZ]
    have:=gY List.length e;rw [hf] at this;simp only [aA] at this;omega
  have hcn:(cls pj pr l).length<=l.length:=by
    have key:∀cs:List (List Int),(∀c∈cs,c≠ [])->cs.length<=cs.flatten.length:=by
      intro cs
      induction cs with
      | nil=>intro _; simp
      | cons c cs ih=>
        intro h;have h1:=ih fun d hd=>h d (wT _ hd);have h2:1<=c.length:=by
          cases c with
          | nil=>exact absurd rfl (h [] (by simp))
          | cons _ _=>simp
        simp only [lV,aK,aA];omega
    have:=key (cls pj pr l) hne;rw [hf] at this;exact this
  unfold gO;rw [zL l h hl];simp only [bsm];generalize (cls pj pr l)=cs at *;refine lP (n:=cs.length) (fun i st=>∃qi,fo sX p (cs.take i)=some qi/\st=((i:Int),qi.L,qi.At.Row,qi.At.Col,qi.At.Pending,qi.Auto)) (fun u=>u=(q.L,q.At.Row,q.At.Col,q.At.Pending,q.Auto)) (fun i st hi hI=>?_) (fun st hI=>?_) ⟨p,rfl,rfl⟩ (by omega) (fun u hu=>by rw [hu])
  · obtain ⟨qi,hqi,rfl⟩:=hI
    obtain ⟨q',h1,h2⟩:=Bx hq hi hqi;have hci:=aF hi;have hcne:=hne _ hci;have hcL:=hcl _ hci;simp only;rw [ae (dlt hi),bp hi,dL hi (by omega)];simp only [bsm];refine .inl ⟨((i+1:Nat),q'.L,q'.At.Row,q'.At.Col,q'.At.Pending,q'.Auto),?_,q',h2,rfl⟩;generalize cs[i]=c at *
    cases c with
    | nil=>exact absurd rfl hcne
    | cons a t=>
      rw [show idx (a::t) 0=some a from rfl];simp only [bsm,mQ];have hR:R32 (a::t):=fun x hx=>h x (hmem _ hci x hx)
      cases hs:sil a with
      | false=>
        rw [wm hs] at h1;simp only [eL,bz];rw [EM _ hR (by omega) (by simp),zE _ (by omega)];simp only [bsm];rw [af (show ¬sil ((a::t).headD 0)=true by rw [JD,hs]; simp)];rw [lj] at h1;obtain ⟨z,hz,rfl⟩:=h1;rw [show (⟨qi.L,⟨qi.At.Row,qi.At.Col,qi.At.Pending⟩,qi.Auto⟩:aa)=qi from rfl,hz];rfl
      | true=>
        rw [tN hs] at h1;simp only [dk,ak,ba];generalize hcc:a::t=c at *;obtain ⟨u,e1,e2⟩:=ep (σ:=Int×(List aj)×Int×Int×Bool×Bool) (τ:=((List aj)×Int×Int×Bool×Bool)) (n:=c.length) (fuel:=((c.length:Int)-0).toNat+1) (s:=(0,qi.L,qi.At.Row,qi.At.Col,qi.At.Pending,qi.Auto))
          (fun k st=>∃qk,fo AP qi (c.take k)=some qk/\st=((k:Int),qk.L,qk.At.Row,qk.At.Col,qk.At.Pending,qk.Auto)) (fun u=>u=(q'.L,q'.At.Row,q'.At.Col,q'.At.Pending,q'.Auto))
          (step:=fun s_45=>
 (some c).bind fun x_49=>
 if (decide (s_45.1<(x_49.length:Int)))=true then
 (some c).bind fun x_57=>
 (idx x_57 s_45.1).bind fun x_60=>
 (cI (⟨s_45.2.1,(⟨s_45.2.2.1,s_45.2.2.2.1,s_45.2.2.2.2.1⟩:ai),s_45.2.2.2.2.2⟩:aa) x_60).bind fun x_62=>
 some (.inl ((w64 (s_45.1+1)),x_62.1.L,x_62.1.At.Row,x_62.1.At.Col,x_62.1.At.Pending,x_62.1.Auto))
 else
 some (.inr (s_45.2.1,s_45.2.2.1,s_45.2.2.2.1,s_45.2.2.2.2.1,s_45.2.2.2.2.2)))
          (fun k st hk hI=>by
            obtain ⟨qk,g1,rfl⟩:=hI;obtain ⟨qn,g2,g3⟩:=Bx h1 hk g1;unfold AP at g2;rw [lj] at g2;obtain ⟨z,hz,rfl⟩:=g2;simp only [bsm];rw [ae (dlt hk),bp hk,dL hk (by omega)];simp only [bsm];rw [show (⟨qk.L,⟨qk.At.Row,qk.At.Col,qk.At.Pending⟩,qk.Auto⟩:aa)=qk from rfl,hz];exact .inl ⟨_,rfl,_,g3,rfl⟩)
          (fun st hI=>by
            obtain ⟨qk,g1,rfl⟩:=hI;rw [aC (az _),h1] at g1;cases g1;simp only [bsm];exact ⟨_,by rw [af (by simp)],rfl⟩)
          ⟨qi,rfl,rfl⟩ (by omega)
        subst e2;simp only [bsm] at e1|-;rw [e1];rfl
  · obtain ⟨qi,hqi,rfl⟩:=hI
    rw [aC (az _),hq] at hqi;cases hqi;exact ⟨_,by simp only; rw [af (by simp)],rfl⟩
end Go.Proofs.YtclmdpamofdoiaaGreatDoor
namespace Go.Proofs.YtclmdpamofdoiaaGreatDoor
def ld (b:Int):Int:=if b<128 then 1 else if 194<=b/\b<=223 then 2 else if 224<=b/\b<=239 then 3 else if 240<=b/\b<=244 then 4 else 0
def slo (b:Int):Int:=if b=224 then 160 else if b=240 then 144 else 128
def shi (b:Int):Int:=if b=237 then 159 else if b=244 then 143 else 191
theorem tM (b:Int):0<=ld b/\ld b<=4:=by
 unfold ld
 repeat' split
 all_goals omega
def bg:List Int->Int
 | [a]=>ld a
 | [a,b]=>if 2<=ld a/\slo a<=b/\b<=shi a then ld a else 0
 | [a,b,c]=>if 3<=ld a/\slo a<=b/\b<=shi a/\128<=c/\c<=191 then ld a else 0
 | [a,b,c,d]=>if ld a=4/\slo a<=b/\b<=shi a/\128<=c/\c<=191/\128<=d/\d<=191 then 4 else 0
 | _=>0
def b0 (a:Int):Int:=if ld a=2 then a-192 else if ld a=3 then a-224 else if ld a=4 then a-240 else a
def vl:List Int->Int
 | []=>0
 | a::l=>l.foldl (fun v x=>v*64+(x-128)) (b0 a)
def rs0 (b:Int):List Int×List Int:=if 1<ld b then ([],[b]) else if ld b=1 then ([b],[]) else ([65533],[])
def ju (h:List Int) (b:Int):List Int×List Int:=
 if h= [] then rs0 b else if (h.length:Int)+1<bg (h++ [b]) then ([],h++ [b]) else if 0<bg (h++ [b]) then ([vl (h++ [b])],[]) else (65533::(rs0 b).1,(rs0 b).2)
def bC:List Int->List Int->List Int×List Int
 | h,[]=>([],h)
 | h,b::p=>((ju h b).1++(bC (ju h b).2 p).1,(bC (ju h b).2 p).2)
theorem oU (h a b:List Int):bC h (a++b)=((bC h a).1++(bC (bC h a).2 b).1,(bC (bC h a).2 b).2):=by
 induction a generalizing h with
 | nil=>simp [bC]
 | cons x a ih=>simp [bC,ih]
theorem pM (h a:List Int) (x:Int):bC h (a++ [x])=((bC h a).1++(ju (bC h a).2 x).1,(ju (bC h a).2 x).2):=by
 rw [oU];simp [bC]
def Hh (h:List Int):Prop:=h= []\/(h.length:Int)<bg h
theorem Hh.step {h:List Int}(hh:Hh h) (b:Int):Hh (ju h b).2:=by
 unfold ju;have h0:Hh (rs0 b).2:=by
  unfold rs0;split
  ·rename_i q; exact .inr q
  ·split <;> exact .inl rfl
 split
 ·exact h0
 ·split
  ·rename_i q; exact .inr (by simp only [aA,aK,aP]; omega)
  ·split
   ·exact .inl rfl
   ·exact h0
theorem Hh.feed {h:List Int}(hh:Hh h) (p:List Int):Hh (bC h p).2:=by
 induction p generalizing h with
 | nil=>exact hh
 | cons b p ih=>exact ih (hh.step b)
theorem Hh.len {h:List Int}(hh:Hh h):h.length<=3:=by
 rcases hh with rfl|hh
 ·simp
 ·match h,hh with
  | [],_=>simp
  | [_],_=>simp
  | [_,_],_=>simp
  | [_,_,_],_=>simp
  | [a,b,c,d],q=>simp only [bg,aK,aP] at q; split at q <;> omega
  | _::_::_::_::_::_,q=>simp only [bg,aK] at q; omega
theorem FS {l:List Int}(h:5<=l.length):bg l=0:=by
 match l,h with
 | [],h=>simp at h
 | [_],h=>simp at h
 | [_,_],h=>simp at h
 | [_,_,_],h=>simp at h
 | [_,_,_,_],h=>simp at h
 | _::_::_::_::_::_,_=>rfl
theorem Hu {h:List Int}{b:Int}(hne:h≠ []) (hb:0<bg (h++ [b])):bg h=bg (h++ [b]):=by
 match h,hne,hb with
 | [a],_,q=>simp only [cv,bm,bg] at q|-; split at q <;> rename_i g; rw [ae g]; omega
 | [a,c],_,q=>
  simp only [cv,bm,bg] at q|-;split at q
  ·rename_i g; rw [ae g,ae ⟨by omega,g.2.1,g.2.2.1⟩]
  ·omega
 | [a,c,d],_,q=>
  simp only [cv,bm,bg] at q|-;split at q
  ·rename_i g; rw [ae g,ae ⟨by omega,g.2.1,g.2.2.1,g.2.2.2.1,g.2.2.2.2.1⟩]; exact g.1
  ·omega
 | a::c::d::e::t,_,q=>rw [FS (by simp)] at q; omega
theorem uI {c:List Int}(hc:c≠ []) (h:∀k,0<k->k<=c.length->(k:Int)<bg (c.take k)):bC [] c=([],c):=by
 have key:∀n,n<=c.length->bC [] (c.take n)=([],c.take n):=by
  intro n
  induction n with
  | zero=>intro _; rfl
  | succ n ih=>
   intro hn;have h1:=h (n+1) (by omega) hn;rw [ax (by omega)] at h1|-;rw [pM,ih (by omega)];have h2:ju (c.take n) c[n]=([],c.take n++ [c[n]]):=by
    unfold ju;by_cases hz:c.take n= []
    ·rw [ae hz,hz];rw [hz] at h1;simp only [bm,bg] at h1;have hn0:n=0:=by
      have:=gY List.length hz;rw [ay,aP] at this;omega
     subst hn0;unfold rs0;rw [ae (by simpa using h1)];rfl
    ·have hl:(c.take n).length=n:=by rw [ay]; omega
     rw [af hz,ae (by rw [hl]; omega)]
   rw [h2];rfl
 have:=key c.length (az _)
 rwa [aC (az _)] at this
structure GK (c:List Int) (k:Nat):Prop where
 le:k<=c.length
 lt:∀m,0<m->m<k->(m:Int)<bg (c.take m)
 z:k=0->bg (c.take 1)=0
 p:0<k->0<bg (c.take k)
 e:0<k->(k:Int)<bg (c.take k)->k=c.length\/bg (c.take (k+1))=0
theorem uw (b:Int):ju [] b=rs0 b:=by
 unfold ju;rw [ae rfl]
theorem vW (b:Int) (p:List Int):bC [] (b::p)=((rs0 b).1++(bC (rs0 b).2 p).1,(bC (rs0 b).2 p).2):=by
 rw [bC,uw]
theorem wh {c:List Int}{k:Nat}(h:GK c k) (hk:0<k) (hw:bg (c.take k)=k):bC [] c=(vl (c.take k)::(bC [] (c.drop k)).1,(bC [] (c.drop k)).2):=by
 have hle:=h.le
 conv=>lhs; rw [<-gZ k c]
 rw [oU]
 suffices e:bC [] (c.take k)=([vl (c.take k)],[]) by
  rw [e];rfl
 obtain ⟨m,rfl⟩:∃m,k=m+1:=⟨k-1,by omega⟩;have ht:c.take (m+1)=c.take m++ [c[m]]:=ax (by omega);rw [ht] at hw|-;rw [pM];have hl:(c.take m).length=m:=by rw [ay]; omega
 by_cases hm:m=0
 ·subst hm;simp only [eK,bm] at hw|-;simp only [bC,uw];unfold rs0;simp only [bg] at hw;rw [af (by omega),ae (by omega)];simp only [vl,List.foldl,b0];rw [af (by omega),af (by omega),af (by omega)];rfl
 ·have hne:c.take m≠ []:=fun e=>by rw [e] at hl; simp at hl; omega
  rw [uI hne (fun n h0 hn=>by
   rw [fB,show min n m=n by rw [hl] at hn; omega];exact h.lt n h0 (by omega))]
  simp only;have h2:ju (c.take m) c[m]=([vl (c.take m++ [c[m]])],[]):=by
   unfold ju;rw [af hne,af (by rw [hl,hw]; simp),ae (by rw [hw]; omega)]
  rw [h2];rfl
theorem Cm {c:List Int}(hc:c≠ []) (h:bg (c.take 1)=0):bC [] c=(65533::(bC [] (c.drop 1)).1,(bC [] (c.drop 1)).2):=by
 cases c with
 | nil=>exact absurd rfl hc
 | cons a c=>
  simp only [mW,eK,bg] at h;rw [vW];unfold rs0;rw [af (by omega),af (by omega)];rfl
theorem zk {c:List Int}(h:GK c c.length) (hk:0<c.length) (hw:(c.length:Int)<bg c):bC [] c=([],c):=by
 refine uI (fun e=>by rw [e] at hk; simp at hk) fun k h0 hn=>?_;by_cases hkk:k=c.length
 ·subst hkk;rw [aC (az _)];exact hw
 ·exact h.lt k h0 (by omega)
theorem Cl {c:List Int}{k:Nat}(h:GK c k) (hk:0<k) (hw:(k:Int)<bg (c.take k)) (hlt:k<c.length):bC [] c=(65533::(bC [] (c.drop k)).1,(bC [] (c.drop k)).2):=by
 have hl:(c.take k).length=k:=by rw [ay]; omega
 have hne:c.take k≠ []:=fun e=>by rw [e] at hl; simp at hl; omega
 have hz:bg (c.take (k+1))=0:=by
  rcases h.e hk hw with q|q
  ·omega
  ·exact q
 conv=>lhs; rw [<-gZ k c]
 rw [oU,uI hne (fun n h0 hn=>by
  rw [fB,show min n k=n by rw [hl] at hn; omega];by_cases hkk:n=k
  ·subst hkk; exact hw
  ·exact h.lt n h0 (by rw [hl] at hn; omega))]
 rw [gM hlt];simp only [bm];rw [ax hlt] at hz;have h2:ju (c.take k) c[k]=(65533::(rs0 c[k]).1,(rs0 c[k]).2):=by
  unfold ju;rw [af hne,af (by rw [hz]; omega),af (by rw [hz]; omega)]
 rw [vW,bC,h2];rfl
end Go.Proofs.YtclmdpamofdoiaaGreatDoor
namespace Go.Proofs.YtclmdpamofdoiaaGreatDoor
open Go Go.Lt
def Byt (b:Int):Prop:=0<=b/\b<=255
def Bts (l:List Int):Prop:=∀x∈l,Byt x
theorem zo {b:Int}(h:Byt b):jR b=some (ld b):=by
 obtain ⟨h1,h2⟩:=h;unfold jR ld;simp only [bi,bsm,av,an,AK];have e1:w64 (0+1)=1:=rfl;have e2:w64 (1+1)=2:=rfl;have e3:w64 (2+1)=3:=rfl;have e4:w64 (3+1)=4:=rfl;rw [e1,e2,e3,e4]
 repeat' split
 all_goals first|rfl|omega
theorem AD {b:Int}(h:Byt b) (hl:2<=ld b):kE b=some (slo b,shi b):=by
 unfold kE slo shi;rw [zo h];simp only [bsm,aT,an];rw [af (by omega)];have e1:IntKind.u8.wrap (IntKind.u8.wrap (191-16)-32)=143:=by decide
 have e2:IntKind.u8.wrap (191-32)=159:=by decide
 rw [e1,e2];by_cases a1:b=224
 ·subst a1; rfl
 by_cases a2:b=240
 ·subst a2; rfl
 by_cases a3:b=244
 ·subst a3; rfl
 by_cases a4:b=237
 ·subst a4; rfl
 rw [af a1,af a2,af a3,af a4,af a1,af a2,af a4,af a3];rfl
def Es (n:Nat):Bool:=(mb n==if ld n=0 then some 0 else some (b0 n))
theorem Ep:(List.range 256).all Es=true:=by kernel_rfl
theorem DL {b:Int}(h:Byt b) (hl:1<=ld b):mb b=some (b0 b):=by
 obtain ⟨h1,h2⟩:=h;have:=List.all_eq_true.1 Ep b.toNat (List.mem_range.2 (by omega));unfold Es at this;rw [aT,qm h1,af (by omega)] at this;exact this
def C9 (n:Nat):Bool:=(lu .u8 n 63==if 128<=n/\n<=191 then (n:Int)-128 else lu .u8 n 63)
theorem C8:(List.range 256).all C9=true:=by kernel_rfl
theorem C7 {b:Int}(h1:128<=b) (h2:b<=191):lu .u8 b 63=b-128:=by
 have:=List.all_eq_true.1 C8 b.toNat (List.mem_range.2 (by omega));unfold C9 at this;rw [aT,qm (by omega),ae (by omega)] at this;exact this
theorem GT {x y:Nat}(hx:x<1000000000) (hy:y<64):sa .i64 ((x:Int)*64) (y:Int)=((x*64+y:Nat):Int):=by
 have e1:BitVec.ofInt 64 ((x:Int)*64)=BitVec.ofNat 64 (x*64):=by
  rw [show ((x:Int)*64)=((x*64:Nat):Int) by simp,IV]
 have e2:BitVec.ofInt 64 (y:Int)=BitVec.ofNat 64 y:=IV _ _;have e3:(x*64) ||| y=x*64+y:=by
  have:=Nat.shiftLeft_add_eq_or_of_lt (show y<2 ^ 6 by omega) x;rw [Nat.shiftLeft_eq] at this;exact this.symm
 unfold sa;rw [show IntKind.i64.bits=64 from rfl,e1,e2,BitVec.toNat_or,Ji,Ji,A7 (by omega),A7 (by omega),e3];exact aG (by omega)
def Dv (d:bH) (h:List Int):Prop:=
 Hh h/\Bts h/\d=(match h with|[]=>⟨0,0,0,0,0⟩|[a]=>⟨1,ld a-1,slo a,shi a,b0 a⟩|a::b::t=>⟨(h.length:Int),bg h-(h.length:Int),128,191,vl h⟩)
theorem xL {b:Int}(h:Byt b):∃d',cB ⟨0,0,0,0,0⟩ b=some (d',(rs0 b).1)/\Dv d' (rs0 b).2:=by
 have hb:=h;obtain ⟨h1,h2⟩:=hb;unfold cB rs0;rw [zo h];simp only [bsm,aT];have hin:=tM b;by_cases e0:ld b=0
 ·rw [ae e0,af (by omega),af (by omega)];exact ⟨_,rfl,.inl rfl,fun x hx=>by simp at hx,rfl⟩
 ·rw [af e0];by_cases e1:ld b=1
  ·rw [ae e1,af (by omega),ae e1,xN (by omega)];exact ⟨_,rfl,.inl rfl,fun x hx=>by simp at hx,rfl⟩
  ·rw [af e1,ae (by omega),DL h (by omega),AD h (by omega)];simp only [bsm];rw [aG (by omega)];refine ⟨_,rfl,.inr ?_,fun x hx=>?_,rfl⟩
   ·simp only [aK,aP,bg]; omega
   ·rw [List.mem_singleton.1 hx]; exact h
theorem Bb {h:List Int}(hne:h≠ []) (b:Int):vl (h++ [b])=vl h*64+(b-128):=by
 cases h with
 | nil=>exact absurd rfl hne
 | cons a t=>simp [vl,lU]
theorem Ew {a:Int}(h:Byt a) (hl:2<=ld a):0<=b0 a/\b0 a<=31:=by
 obtain ⟨h1,h2⟩:=h;unfold b0;unfold ld at hl;unfold ld
 repeat' split at hl
 all_goals (repeat' split)
 all_goals omega
theorem F3 {h:List Int}(hh:Hh h) (hb:Bts h) (hne:h≠ []):0<=vl h/\vl h<=131071:=by
 rcases hh with rfl|hh
 ·exact absurd rfl hne
 ·match h,hh with
  | [],_=>exact absurd rfl hne
  | [a],q=>
   have ha:=hb a (by simp);simp only [bg,aK,aP] at q;have:=Ew ha (by omega);simp only [vl,List.foldl];omega
  | [a,b],q=>
   have ha:=hb a (by simp);simp only [bg,aK,aP] at q;split at q
   ·rename_i g
    have:=Ew ha (by omega);have hs:128<=b/\b<=191:=by
     have:=g.2;unfold slo shi at this
     repeat' split at this
     all_goals omega
    simp only [vl,List.foldl];omega
   ·omega
  | [a,b,c],q=>
   have ha:=hb a (by simp);simp only [bg,aK,aP] at q;split at q
   ·rename_i g
    have:=Ew ha (by omega);have hs:128<=b/\b<=191:=by
     have:=g.2;unfold slo shi at this
     repeat' split at this
     all_goals omega
    simp only [vl,List.foldl];omega
   ·omega
  | [a,b,c,d],q=>simp only [bg,aK,aP] at q; split at q <;> omega
  | _::_::_::_::_::_,q=>simp only [bg,aK] at q; omega
theorem zq {h:List Int}(hh:(h.length:Int)<bg h) (hne:h≠ []) (b:Int):∃lo hi,(match h with|[a]=>(slo a,shi a)|_=>(128,191))=(lo,hi)/\128<=lo/\hi<=191/\
  ((lo<=b/\b<=hi)->bg (h++ [b])=bg h)/\(¬(lo<=b/\b<=hi)->bg (h++ [b])=0):=by
 match h,hh with
 | [],_=>exact absurd rfl hne
 | [a],q=>
  simp only [bg,aK,aP] at q;refine ⟨slo a,shi a,rfl,by unfold slo; repeat' split; all_goals omega,by unfold shi; repeat' split; all_goals omega,fun g=>?_,fun g=>?_⟩
  ·simp only [cv,bm,bg];rw [ae ⟨by omega,g.1,g.2⟩]
  ·simp only [cv,bm,bg];rw [af (fun c=>g c.2)]
 | [a,c],q=>
  simp only [bg,aK,aP] at q;refine ⟨128,191,rfl,by omega,by omega,fun g=>?_,fun g=>?_⟩
  ·simp only [cv,bm,bg];split at q
   ·rename_i r
    rw [ae ⟨by omega,r.2.1,r.2.2,g.1,g.2⟩,ae r]
   ·omega
  ·simp only [cv,bm,bg];rw [af (fun r=>g r.2.2.2)]
 | [a,c,d],q=>
  have hl:=tM a;simp only [bg,aK,aP] at q;refine ⟨128,191,rfl,by omega,by omega,fun g=>?_,fun g=>?_⟩
  ·simp only [cv,bm,bg];split at q
   ·rename_i r
    rw [ae ⟨by omega,r.2.1,r.2.2.1,r.2.2.2.1,r.2.2.2.2,g.1,g.2⟩,ae r];omega
   ·omega
  ·simp only [cv,bm,bg];rw [af (fun r=>g r.2.2.2.2.2)]
 | [a,b,c,d],q=>simp only [bg,aK,aP] at q; split at q <;> omega
 | _::_::_::_::_::_,q=>simp only [bg,aK] at q; omega
theorem Dv.shape {d:bH}{h:List Int}(v:Dv d h) (hne:h≠ []):∃lo hi,(match h with|[a]=>(slo a,shi a)|_=>(128,191))=(lo,hi)/\d=⟨(h.length:Int),bg h-(h.length:Int),lo,hi,vl h⟩:=by
 obtain ⟨_,_,e⟩:=v
 match h,e with
 | [],_=>exact absurd rfl hne
 | [a],e=>exact ⟨_,_,rfl,e⟩
 | a::b::t,e=>exact ⟨_,_,rfl,e⟩
theorem D8 {d:bH}{h:List Int}(v:Dv d h){b:Int}(hb:Byt b):∃d',dd d b=some (d',(ju h b).1)/\Dv d' (ju h b).2:=by
 have v0:=v;obtain ⟨hh,hbs,e⟩:=v;unfold dd ju;simp only [ak,ba];by_cases hne:h= []
 ·subst hne;simp only at e;subst e;obtain ⟨d',a1,a2⟩:=xL hb;simp only [oO,eq_self,bz,a1,bsm];exact ⟨d',rfl,a2⟩
 ·obtain ⟨lo,hi,e1,e2⟩:=v0.shape hne;have hlt:(h.length:Int)<bg h:=by
   rcases hh with q|q
   ·exact absurd q hne
   ·exact q
  obtain ⟨lo',hi',f1,f2,f3,f4,f5⟩:=zq hlt hne b;rw [e1] at f1;cases f1;subst e2;have hlen:0<h.length:=by
   cases h with
   | nil=>exact absurd rfl hne
   | cons _ _=>simp
  have hl3:=hh.len;rw [af hne];simp only [aT];rw [af (by omega)];simp only [bD,bsm,aD,an,gt_iff_lt];by_cases hr:lo<=b/\b<=hi
  ·have hbg:=f4 hr;have hvl:=F3 hh hbs hne;have hbgl:bg h<=4:=by
    match h,hlen with
    | [a],_=>simp only [bg]; exact (tM a).2
    | [a,b],_=>simp only [bg]; split <;> first|exact (tM a).2|omega
    | [a,b,c],_=>simp only [bg]; split <;> first|exact (tM a).2|omega
    | a::b::c::x::t,_=>simp at hl3
   have hbits:sa .i64 (w64 (vl h*2 ^ 6)) (w64 (lu .u8 b 63))=vl h*64+(b-128):=by
    obtain ⟨x,hx⟩:∃x:Nat,vl h=(x:Int):=⟨(vl h).toNat,by omega⟩;obtain ⟨y,hy⟩:∃y:Nat,b-128=(y:Int):=⟨(b-128).toNat,by omega⟩;rw [C7 (by omega) (by omega),hx,hy,show ((x:Int)*2 ^ 6)=(x:Int)*64 from rfl,aG (by omega),aG (by omega),GT (by omega) (by omega)];simp
   have hbs':Bts (h++ [b]):=fun x hx=>by
    rcases List.mem_append.1 hx with hx|hx
    ·exact hbs x hx
    ·rw [List.mem_singleton.1 hx]; exact hb
   have hsn:=Bb hne b;rw [af (by omega),aG (by omega),aG (by omega),hbits,<-hsn];by_cases hm:(h.length:Int)+1<bg h
   ·rw [ae (by omega),ae (by rw [hbg]; omega)];refine ⟨_,rfl,.inr (by rw [hbg]; simp; omega),hbs',?_⟩;simp only [hbg]
    match h,hlen with
    | a::t,_=>
     cases t with
     | nil=>simp only [cv,bm,aK,aP,bH.mk.injEq,wQ,vP]; omega
     | cons b2 t=>simp only [cv,aK,aA,aP,bH.mk.injEq,wQ,vP]; omega
   ·rw [af (by omega),af (by rw [hbg]; omega),ae (by rw [hbg]; omega),xN (by rw [hsn]; omega)];exact ⟨_,rfl,.inl rfl,fun x hx=>by simp at hx,rfl⟩
  ·have hz:=f5 hr;rw [ae (by omega),af (by rw [hz]; omega),af (by rw [hz]; omega)];have hfl:bN ⟨(h.length:Int),bg h-(h.length:Int),lo,hi,vl h⟩=some (⟨0,0,0,0,0⟩,[65533]):=by
    unfold bN cF;simp only [ak,ba,bsm,aT];rw [af (by omega)]
   rw [hfl];simp only [bsm];obtain ⟨d',a1,a2⟩:=xL hb;rw [a1];simp only [bsm];have hrl:(rs0 b).1.length<=1:=by
    unfold rs0;split
    ·simp
    ·split <;> simp
   rw [cU (by simp; omega)];exact ⟨d',rfl,a2⟩
theorem D9 {d:bH}{h:List Int}(v:Dv d h):cF d=some (h.length:Int):=by
 unfold cF;simp only [ak,ba];by_cases hne:h= []
 ·subst hne;obtain ⟨_,_,e⟩:=v;simp only at e;rw [e];rfl
 ·obtain ⟨lo,hi,_,e⟩:=v.shape hne;rw [e]
theorem CG {d:bH}{h:List Int}(v:Dv d h):bN d=some (⟨0,0,0,0,0⟩,if h= [] then [] else [65533]):=by
 unfold bN;rw [D9 v];simp only [bsm,aT];by_cases hne:h= []
 ·subst hne;obtain ⟨_,_,e⟩:=v;simp only at e;rw [ae (by simp),ae rfl,e]
 ·rw [af (fun e=>hne (fj (by omega))),af hne]
theorem Dv.zero:Dv ⟨0,0,0,0,0⟩ []:=⟨.inl rfl,fun x hx=>by simp at hx,rfl⟩
theorem DU {σ τ:Type}(n:Nat) (f:σ->Option (σ ⊕ τ)) (s:σ):cL (n+1) f s=(f s).bind fun x=>match x with|.inl s'=>cL n f s'|.inr t=>some t:=rfl
def lp:List Int->Nat->Int->Int->Bool ⊕ (Int×Int)
 | _,0,lo,hi=> .inr (lo,hi)
 | x::xs,k+1,lo,hi=>if 128<=x/\x<=191 then lp xs k (lo*64+(x-128)) (hi*64+(x-128)) else .inl false
 | [],k+1,lo,hi=>lp [] k (lo*64) (hi*64+63)
def bd (k:Nat):Int:=if k=3 then 127 else if k=2 then 8191 else if k=1 then 524287 else 33554431
def mk (n:Nat):Int:=if n=2 then 192 else if n=3 then 224 else if n=4 then 240 else 0
def sz (n:Nat):Int:=if n=1 then 128 else if n=2 then 32 else if n=3 then 16 else if n=4 then 8 else 0
def fr (n:Nat):Int:=if n=2 then 128 else if n=3 then 2048 else if n=4 then 65536 else 0
def to (n:Nat):Int:=if n=1 then 127 else if n=2 then 2047 else if n=3 then 65535 else if n=4 then 1114111 else 0
theorem Ga {n:Nat}(h1:1<=n) (h2:n<=4):idx ([0,0,192,224,240]:List Int) n=some (mk n)/\idx ([0,128,32,16,8]:List Int) n=some (sz n)/\idx ([0,0,128,2048,65536]:List Int) n=some (fr n)/\idx ([0,127,2047,65535,1114111]:List Int) n=some (to n):=by
 have:n=1\/n=2\/n=3\/n=4:=by omega
 rcases this with rfl|rfl|rfl|rfl <;> exact ⟨rfl,rfl,rfl,rfl⟩
def sst (p:List Int) (n:Nat):Int×Int×Int->Option ((Int×Int×Int) ⊕ (Bool ⊕ (Int×Int))):=fun s_40=>
 if (decide (s_40.2.2<(n:Int)))=true then
 if (decide (s_40.2.2<(p.length:Int)))=true then
 (idx p s_40.2.2).bind fun x_62=>
 (orE (decide ((w64 ((w64 x_62)-128))<0)) (some (decide ((w64 ((w64 x_62)-128))>63)))).bind fun d_70=>
 if d_70=true then
 some (.inr (.inl false))
 else
 some (.inl ((w64 ((w64 (s_40.1*64))+(w64 ((w64 x_62)-128)))),(w64 ((w64 ((w64 ((w64 (s_40.2.1*64))+63))-63))+(w64 ((w64 x_62)-128)))),(w64 (s_40.2.2+1))))
 else
 some (.inl ((w64 (s_40.1*64)),(w64 ((w64 (s_40.2.1*64))+63)),(w64 (s_40.2.2+1))))
 else
 some (.inr (.inr (s_40.1,s_40.2.1)))
theorem BT (p:List Int) (hp:Bts p) (n:Nat) (hn:n<=4):∀(k:Nat) (i:Nat) (lo hi:Int),k<=3->1<=i->i+k=n->0<=lo->lo<=bd k->0<=hi->hi<=bd k->cL (σ:=Int×Int×Int) (τ:=Bool ⊕ (Int×Int)) (k+1) (sst p n) (lo,hi,(i:Int))=some (lp (p.drop i) k lo hi):=by
 intro k
 induction k with
 | zero=>
  intro i lo hi _ _ hik _ _ _ _;rw [DU];have e:sst p n (lo,hi,(i:Int))=some (.inr (.inr (lo,hi))):=by
   unfold sst;simp only;rw [af (by simp; omega)]
  rw [e]
  cases p.drop i <;> rfl
 | succ k ih=>
  intro i lo hi hk h1 hik a1 a2 a3 a4;have hb:(bd (k+1)+1)*64<=bd k+1:=by
   have:k=0\/k=1\/k=2:=by omega
   rcases this with rfl|rfl|rfl <;> decide
  have hb2:bd k<=33554431:=by unfold bd; repeat' split; all_goals omega
  rw [DU];by_cases hi':i<p.length
  ·rw [gM hi'];have hx:=hp _ (aF hi');obtain ⟨x1,x2⟩:=hx;unfold lp;have e:sst p n (lo,hi,(i:Int))=if 128<=p[i]/\p[i]<=191 then some (.inl (lo*64+(p[i]-128),hi*64+(p[i]-128),((i+1:Nat):Int))) else some (.inr (.inl false)):=by
    unfold sst;simp only;rw [ae (by simp; omega),dL (show i<n by omega) (by omega),ae (dlt hi'),bp hi'];simp only [bsm,bD,aD,an];rw [aG (n:=p[i]) (by omega),aG (n:=p[i]-128) (by omega)];by_cases hr:128<=p[i]/\p[i]<=191
    ·rw [af (by omega),ae hr];rw [aG (n:=lo*64) (by omega),aG (n:=hi*64) (by omega),aG (n:=hi*64+63) (by omega),aG (n:=hi*64+63-63) (by omega),aG (n:=lo*64+(p[i]-128)) (by omega),aG (n:=hi*64+63-63+(p[i]-128)) (by omega),show hi*64+63-63+(p[i]-128)=hi*64+(p[i]-128) by omega]
    ·rw [ae (by omega),af hr]
   rw [e];by_cases hr:128<=p[i]/\p[i]<=191
   ·rw [ae hr,ae hr];exact ih (i+1) (lo*64+(p[i]-128)) (hi*64+(p[i]-128)) (by omega) (by omega) (by omega) (by omega) (by omega) (by omega) (by omega)
   ·rw [af hr,af hr];rfl
  ·rw [gG (by omega)];unfold lp;have e:sst p n (lo,hi,(i:Int))=some (.inl (lo*64,hi*64+63,((i+1:Nat):Int))):=by
    unfold sst;simp only;rw [ae (by simp; omega),dL (show i<n by omega) (by omega),af (by simp; omega)];rw [aG (n:=lo*64) (by omega),aG (n:=hi*64) (by omega),aG (n:=hi*64+63) (by omega)]
   rw [e];have:=ih (i+1) (lo*64) (hi*64+63) (by omega) (by omega) (by omega) (by omega) (by omega) (by omega) (by omega);rw [gG (by omega)] at this;exact this
def BZ (n:Nat) (z:Bool ⊕ (Int×Int)):Bool:=match z with|.inl b=>b|.inr (lo,hi)=>decide (max lo (fr n)<=min hi (to n)) && (decide (max lo (fr n)<55296) || decide (min hi (to n)>57343))
def smf (a:Int) (t:List Int) (n:Nat):Bool:=if a-mk n<0\/sz n<=a-mk n then false else BZ n (lp t (n-1) (a-mk n) (a-mk n))
theorem ER {a:Int}{t:List Int}(hp:Bts (a::t)){n:Nat}(h1:1<=n) (h2:n<=4):fh (a::t) n=some (smf a t n):=by
 obtain ⟨a1,a2⟩:=hp a (by simp);obtain ⟨m1,m2,m3,m4⟩:=Ga h1 h2;have hm:0<=mk n/\mk n<=240:=by unfold mk; repeat' split; all_goals omega
 have hsz:sz n<=bd (n-1)+1:=by
  have:n=1\/n=2\/n=3\/n=4:=by omega
  rcases this with rfl|rfl|rfl|rfl <;> decide
 unfold fh smf;rw [m1,m2,m3,m4,show idx (a::t) 0=some a from rfl];simp only [bsm];rw [aG (n:=a) (by omega),aG (n:=a-mk n) (by omega),bD];simp only [bsm];by_cases hA:a-mk n<0\/sz n<=a-mk n
 ·rw [ae (by simp only [aD,an]; omega),ae hA]
 ·rw [af (by simp only [aD,an]; omega),af hA,show ((n:Int)-1).toNat+1=(n-1)+1 by omega];have:=BT (a::t) hp n h2 (n-1) 1 (a-mk n) (a-mk n) (by omega) (by omega) (by omega) (by omega) (by omega) (by omega) (by omega);unfold sst at this;simp only [Int.natCast_one,List.drop_succ_cons,jL] at this;rw [this];simp only [bsm]
  cases lp t (n-1) (a-mk n) (a-mk n) with
  | inl b=>rfl
  | inr z=>simp only [fq,dF,bi,bD,bsm,BZ]
theorem oX (a:Int):(ld a=1/\a<128)\/(ld a=2/\194<=a/\a<=223)\/(ld a=3/\224<=a/\a<=239)\/(ld a=4/\240<=a/\a<=244)\/(ld a=0/\128<=a/\¬(194<=a/\a<=244)):=by
 unfold ld
 repeat' split
 all_goals omega
theorem Gx {a:Int}{t:List Int}(hp:Bts (a::t)){n:Nat}(h1:1<=n) (h2:n<=4) (h3:t.length+1<=n):smf a t n=true↔bg (a::t)=(n:Int):=by
 have hl:=oX a;obtain ⟨a1,a2⟩:=hp a (by simp);have:n=1\/n=2\/n=3\/n=4:=by omega
 match t,hp,h3 with
 | [],_,_=>
  rcases this with rfl|rfl|rfl|rfl <;>
   simp only [smf,lp,BZ,bg,mk,sz,fr,to,Nat.reduceEqDiff,bz,ba,Nat.reduceSub,av,aD,an] <;> split <;>
   simp only [av,aD,an,ak,my] <;> omega
 | [b],hp,h3=>
  obtain ⟨b1,b2⟩:=hp b (by simp);simp only [aK,aP] at h3;have hs:slo a=(if a=224 then 160 else if a=240 then 144 else 128)/\shi a=(if a=237 then 159 else if a=244 then 143 else 191):=⟨rfl,rfl⟩;have hs1:(a=224/\slo a=160)\/(a=240/\slo a=144)\/(a≠224/\a≠240/\slo a=128):=by rw [hs.1]; repeat' split; all_goals omega
  have hs2:(a=237/\shi a=159)\/(a=244/\shi a=143)\/(a≠237/\a≠244/\shi a=191):=by rw [hs.2]; repeat' split; all_goals omega
  clear hs
  have hbg:bg [a,b]=if 2<=ld a/\slo a<=b/\b<=shi a then ld a else 0:=rfl;rw [hbg];rcases this with rfl|rfl|rfl|rfl
  ·omega
  all_goals
   simp only [smf,lp,BZ,mk,sz,fr,to,Nat.reduceEqDiff,bz,ba,Nat.reduceSub];split
   ·split <;> simp only [ak,my] <;> omega
   ·by_cases hb:128<=b/\b<=191
    ·simp only [ae hb,av,aD,an];split <;> omega
    ·simp only [af hb];split <;> simp only [ak,my] <;> omega
 | [b,c],hp,h3=>
  obtain ⟨b1,b2⟩:=hp b (by simp);obtain ⟨c1,c2⟩:=hp c (by simp);simp only [aK,aP] at h3;have hs:slo a=(if a=224 then 160 else if a=240 then 144 else 128)/\shi a=(if a=237 then 159 else if a=244 then 143 else 191):=⟨rfl,rfl⟩;have hs1:(a=224/\slo a=160)\/(a=240/\slo a=144)\/(a≠224/\a≠240/\slo a=128):=by rw [hs.1]; repeat' split; all_goals omega
  have hs2:(a=237/\shi a=159)\/(a=244/\shi a=143)\/(a≠237/\a≠244/\shi a=191):=by rw [hs.2]; repeat' split; all_goals omega
  clear hs
  have hbg:bg [a,b,c]=if 3<=ld a/\slo a<=b/\b<=shi a/\128<=c/\c<=191 then ld a else 0:=rfl;rw [hbg];rcases this with rfl|rfl|rfl|rfl
  ·omega
  ·omega
  all_goals
   simp only [smf,lp,BZ,mk,sz,fr,to,Nat.reduceEqDiff,bz,ba,Nat.reduceSub];split
   ·split <;> simp only [ak,my] <;> omega
   ·by_cases hb:128<=b/\b<=191
    ·by_cases hc:128<=c/\c<=191
     ·simp only [ae hb,ae hc,av,aD,an];split <;> omega
     ·simp only [ae hb,af hc];split <;> simp only [ak,my] <;> omega
    ·simp only [af hb];split <;> simp only [ak,my] <;> omega
 | [b,c,d],hp,h3=>
  obtain ⟨b1,b2⟩:=hp b (by simp);obtain ⟨c1,c2⟩:=hp c (by simp);obtain ⟨d1,d2⟩:=hp d (by simp);simp only [aK,aP] at h3;have hs:slo a=(if a=224 then 160 else if a=240 then 144 else 128)/\shi a=(if a=237 then 159 else if a=244 then 143 else 191):=⟨rfl,rfl⟩;have hs1:(a=224/\slo a=160)\/(a=240/\slo a=144)\/(a≠224/\a≠240/\slo a=128):=by rw [hs.1]; repeat' split; all_goals omega
  have hs2:(a=237/\shi a=159)\/(a=244/\shi a=143)\/(a≠237/\a≠244/\shi a=191):=by rw [hs.2]; repeat' split; all_goals omega
  clear hs
  have hbg:bg [a,b,c,d]=if ld a=4/\slo a<=b/\b<=shi a/\128<=c/\c<=191/\128<=d/\d<=191 then 4 else 0:=rfl;rw [hbg];rcases this with rfl|rfl|rfl|rfl
  ·omega
  ·omega
  ·omega
  ·simp only [smf,lp,BZ,mk,sz,fr,to,Nat.reduceEqDiff,bz,ba,Nat.reduceSub];split
   ·split <;> simp only [ak,my] <;> omega
   ·by_cases hb:128<=b/\b<=191
    ·by_cases hc:128<=c/\c<=191
     ·by_cases hd:128<=d/\d<=191
      ·simp only [ae hb,ae hc,ae hd,av,aD,an];split <;> omega
      ·simp only [ae hb,ae hc,af hd];split <;> simp only [ak,my] <;> omega
     ·simp only [ae hb,af hc];split <;> simp only [ak,my] <;> omega
    ·simp only [af hb];split <;> simp only [ak,my] <;> omega
 | _::_::_::_::_,_,h3=>simp at h3; omega
theorem zX {p:List Int}(h:0<bg p):(p.length:Int)<=bg p:=by
 match p,h with
 | [],h=>simp [bg] at h
 | [a],h=>simp only [bg,aK,aP] at h|-; omega
 | [a,b],h=>simp only [bg,aK,aP] at h|-; split at h <;> rename_i g; rw [ae g]; omega; omega
 | [a,b,c],h=>simp only [bg,aK,aP] at h|-; split at h <;> rename_i g; rw [ae g]; omega; omega
 | [a,b,c,d],h=>simp only [bg,aK,aP] at h|-; split at h <;> rename_i g; rw [ae g]; omega; omega
 | _::_::_::_::_::_,h=>simp [bg] at h
theorem BK (p:List Int):0<=bg p/\bg p<=4:=by
 match p with
 | []=>simp [bg]
 | [a]=>exact tM a
 | [a,b]=>simp only [bg]; split <;> first|exact tM a|omega
 | [a,b,c]=>simp only [bg]; split <;> first|exact tM a|omega
 | [a,b,c,d]=>simp only [bg]; split <;> omega
 | _::_::_::_::_::_=>simp [bg]
theorem rX {p:List Int}(hp:Bts p) (hl:p.length<=1000000):bV p=some (bg p):=by
 have hb:=BK p;unfold bV;refine lP (n:=4) (fun i s=>s=((i+1:Nat):Int)/\∀m:Nat,1<=m->m<=i->bg p≠(m:Int)) (fun u=>match u with|.inl n=>n=bg p|.inr _=>bg p=0) (fun i s hi hI=>?_) (fun s hI=>?_) ⟨rfl,fun m h1 h2=>by omega⟩ (by decide) (fun u hu=>?_)
 ·obtain ⟨e,hI⟩:=hI;subst e;rw [ae (by simp; omega)];simp only [bi,bsm];have key:∃t:Bool,(bT (decide ((p.length:Int)>=1) && decide ((p.length:Int)<=((i+1:Nat):Int))) ((fh p ((i+1:Nat):Int)).bind fun x_22=>some x_22))=some t/\(t=true↔bg p=((i+1:Nat):Int)):=by
   by_cases hc:1<=p.length/\p.length<=i+1
   ·rw [show (decide ((p.length:Int)>=1) && decide ((p.length:Int)<=((i+1:Nat):Int)))=true by simp; omega,ip]
    cases p with
    | nil=>simp at hc
    | cons a t=>
     rw [ER hp (by omega) (by omega)];exact ⟨_,rfl,Gx hp (by omega) (by omega) (by simpa using hc.2)⟩
   ·rw [show (decide ((p.length:Int)>=1) && decide ((p.length:Int)<=((i+1:Nat):Int)))=false by simp; omega,iF];refine ⟨false,rfl,?_⟩;simp only [ak,my];intro e;have:=zX (p:=p) (by omega);have h1:1<=p.length:=by
     cases p with
     | nil=>simp [bg] at e; omega
     | cons _ _=>simp
    omega
  obtain ⟨t,h1,h2⟩:=key;rw [h1];simp only [bsm]
  cases t with
  | true=>exact .inr ⟨_,rfl,(h2.1 rfl).symm⟩
  | false=>
   refine .inl ⟨_,rfl,by rw [aG (by omega)]; simp,fun m m1 m2=>?_⟩;by_cases hm:m<=i
   ·exact hI m m1 hm
   ·obtain rfl:m=i+1:=by omega
    exact fun e=>by have:=h2.2 e; cases this
 ·obtain ⟨e,hI⟩:=hI;subst e;refine ⟨.inr (),rfl,?_⟩;have e1:=hI 1 (by omega) (by omega);have e2:=hI 2 (by omega) (by omega);have e3:=hI 3 (by omega) (by omega);have e4:=hI 4 (by omega) (by omega);simp only;omega
 ·cases u with
  | inl n=>simp only at hu; rw [hu]
  | inr u=>simp only at hu; rw [hu]
theorem yE {p:List Int}(h:0<bg p){i:Nat}(h1:1<=i) (h2:i<=p.length):bg (p.take i)=bg p:=by
 have key:∀d,d+1<=p.length->bg (p.take (p.length-d))=bg p:=by
  intro d
  induction d with
  | zero=>intro _; rw [og,aC (az _)]
  | succ d ih=>
   intro hd;have e:=ih (by omega);rw [show p.length-d=(p.length-(d+1))+1 by omega,ax (show p.length-(d+1)<p.length by omega)] at e;have hne:p.take (p.length-(d+1))≠ []:=fun q=>by
    have:=gY List.length q;rw [ay,aP] at this;omega
   rw [Hu hne (by rw [e]; exact h),e]
 have:=key (p.length-i) (by omega)
 rwa [show p.length-(p.length-i)=i by omega] at this
theorem yP {p:List Int}(hp:Bts p) (hb:bg p=(p.length:Int)) (hne:p≠ []):eF p=some (vl p)/\0<=vl p/\vl p<=2000000000:=by
 have h4:=BK p;have hlen:1<=p.length:=by
  cases p with
  | nil=>exact absurd rfl hne
  | cons _ _=>simp
 have hbd:∀i,1<=i->i<p.length->0<=vl (p.take i)/\vl (p.take i)<=131071:=fun i h1 h2=>by
  have hl:(p.take i).length=i:=by rw [ay]; omega
  refine F3 (.inr ?_) (fun x hx=>hp x (du hx)) (fun e=>by rw [e] at hl; simp at hl; omega);rw [hl,yE (by omega) h1 (by omega)];omega
 have hstep:∀i,1<=i->(h:i<p.length)->vl (p.take (i+1))=vl (p.take i)*64+(p[i]-128):=fun i h1 h=>by
  rw [ax h,Bb];intro e;have:=gY List.length e;rw [ay,aP] at this;omega
 have h0:∀a t,p=a::t->vl (p.take 1)=a-mk p.length:=fun a t e=>by
  have hk:ld a=(p.length:Int):=by
   have:=yE (p:=p) (by omega) (i:=1) (by omega) (by omega);rw [e,mW,eK] at this;rw [<-hb,e,<-this];rfl
  rw [e,mW,eK,<-e];simp only [vl,List.foldl];unfold b0 mk
  repeat' split
  all_goals omega
 have hfin:0<=vl p/\vl p<=2000000000:=by
  by_cases h1:p.length=1
  ·obtain ⟨a,rfl⟩:∃a,p= [a]:=by
    match p,h1 with
    | [a],_=>exact ⟨a,rfl⟩
   have:=hp a (by simp);obtain ⟨a1,a2⟩:=this;simp only [bg,aK,aP] at hb;simp only [vl,List.foldl];unfold b0
   repeat' split
   all_goals omega
  ·have e:=hstep (p.length-1) (by omega) (by omega);rw [show p.length-1+1=p.length by omega,aC (az _)] at e;have b:=hbd (p.length-1) (by omega) (by omega);have hx:=hp _ (aF (show p.length-1<p.length by omega));obtain ⟨x1,x2⟩:=hx;have ht:128<=p[p.length-1]:=by
    have e2:p=p.take (p.length-1)++ [p[p.length-1]'(by omega)]:=by
     rw [<-ax (by omega),show p.length-1+1=p.length by omega,aC (az _)]
    have hl:(p.take (p.length-1)).length=p.length-1:=by rw [ay]; omega
    obtain ⟨lo,hi,_,f2,f3,f4,f5⟩:=zq (h:=p.take (p.length-1)) (by rw [hl,yE (by omega) (by omega) (by omega)]; omega) (fun q=>by rw [q] at hl; simp at hl; omega) (p[p.length-1]'(by omega));by_cases hr:lo<=p[p.length-1]'(by omega)/\p[p.length-1]'(by omega)<=hi
    ·omega
    ·have:=f5 hr;rw [<-e2] at this;omega
   omega
 refine ⟨?_,hfin⟩;obtain ⟨m1,_,_,_⟩:=Ga (n:=p.length) hlen (by omega)
 cases hpe:p with
 | nil=>exact absurd hpe hne
 | cons a t=>
  rw [<-hpe];have hmk:0<=mk p.length/\mk p.length<=240:=by unfold mk; repeat' split; all_goals omega
  have ha:=hp a (by rw [hpe]; simp);obtain ⟨a1,a2⟩:=ha;have hi0:idx p 0=some a:=by rw [hpe]; rfl
  unfold eF;rw [m1,hi0];simp only [bsm];rw [aG (n:=a) (by omega),aG (n:=a-mk p.length) (by omega)];refine lP (n:=p.length-1) (fun i s=>s=(vl (p.take (i+1)),((i+1:Nat):Int))) (fun u=>u=vl p) (fun i s hi e=>?_) (fun s e=>?_) (by rw [h0 a t hpe]; rfl) (by omega) (fun u hu=>?_)
  ·subst e;have hx:=hp _ (aF (show i+1<p.length by omega));obtain ⟨x1,x2⟩:=hx;have hv:=hbd (i+1) (by omega) (by omega);simp only;rw [ae (by simp; omega),bp (show i+1<p.length by omega)];simp only [bsm];rw [aG (n:=p[i+1]) (by omega),aG (n:=vl (p.take (i+1))*64) (by omega),aG (n:=vl (p.take (i+1))*64+p[i+1]) (by omega),aG (n:=vl (p.take (i+1))*64+p[i+1]-128) (by omega),dL (show i+1<p.length by omega) (by omega)];refine .inl ⟨_,rfl,?_⟩;rw [hstep (i+1) (by omega) (by omega)]
   congr 1
   omega
  ·subst e;refine ⟨_,by simp only; rw [af (by simp; omega)],?_⟩;rw [show p.length-1+1=p.length by omega,aC (az _)]
  ·subst hu;rw [xN (by omega)]
theorem Bts.snoc {h:List Int}(hb:Bts h){b:Int}(h1:Byt b):Bts (h++ [b]):=fun x hx=>by
 rcases List.mem_append.1 hx with hx|hx
 ·exact hb x hx
 ·rw [List.mem_singleton.1 hx]; exact h1
theorem xo {b:Int}(h:Byt b):dN [] b=some (rs0 b):=by
 have hb1:Bts ([]++ [b]):=Bts.snoc (fun x hx=>by simp at hx) h;have hl:=tM b;unfold dN;rw [cU (by simp)];simp only [bsm];rw [cU (by simp)];simp only [bsm];rw [rX (by simpa using hb1) (by simp)];simp only [bsm,bi,bm,bg,aK,aP];unfold rs0;by_cases h1:1<ld b
 ·rw [ae (by simp; omega),ae h1]
 ·rw [af (by simp; omega),af h1];by_cases h2:ld b=1
  ·rw [ae (by simp; omega),ae h2,(yP (p:=[b]) (by simpa using hb1) (by simpa [bg] using h2) (by simp)).1];simp only [bsm,vl,List.foldl,b0];rw [af (by omega),af (by omega),af (by omega)]
  ·rw [af (by simp; omega),af h2];simp
theorem EQ {h:List Int}(hh:Hh h) (hb:Bts h){b:Int}(h1:Byt b):gF h b=some (ju h b):=by
 have hb1:=hb.snoc h1;have h3:=hh.len;unfold gF;rw [cU (by simp; omega),bm];simp only [bsm];rw [cU (by simp; omega)];simp only [bsm];rw [rX hb1 (by simp; omega)];simp only [bsm,bi];by_cases hne:h= []
 ·subst hne;have:=xo h1;unfold dN at this;rw [uw,<-this,cU (by simp)];simp only [bsm];rw [cU (by simp)];simp only [bsm];rw [rX (by simpa using hb1) (by simp)];simp only [bsm,bi,bm,aP];rfl
 ·unfold ju;rw [af hne];have hl:(h++ [b]).length=h.length+1:=by simp
  rw [hl];by_cases g1:(h.length:Int)+1<bg (h++ [b])
  ·rw [ae (by simp; omega),ae g1]
  ·rw [af (by simp; omega),af g1];by_cases g2:0<bg (h++ [b])
   ·rw [ae (by simpa using g2),ae g2];have hw:bg (h++ [b])=((h++ [b]).length:Int):=by
     have:=zX g2;rw [hl] at this|-;omega
    rw [(yP hb1 hw (by simp)).1];rfl
   ·rw [af (by simpa using g2),af g2,af (by simp; exact hne),xo h1];have hrl:(rs0 b).1.length<=1:=by
     unfold rs0;split
     ·simp
     ·split <;> simp
    simp only [bsm];rw [cU (by simp; omega)];rfl
theorem ux (h:List Int) (b:Int):(ju h b).1.length<=2:=by
 have hrl:(rs0 b).1.length<=1:=by
  unfold rs0;split
  ·simp
  ·split <;> simp
 unfold ju;split
 ·omega
 ·split
  ·simp
  ·split
   ·simp
   ·simp; omega
theorem xv (h p:List Int):(bC h p).1.length<=2*p.length:=by
 induction p generalizing h with
 | nil=>simp [bC]
 | cons b p ih=>
  have:=ih (ju h b).2;have h2:=ux h b;simp only [bC,aA,aK];omega
theorem B8 {h:List Int}(hb:Bts h){b:Int}(h1:Byt b):Bts (ju h b).2:=by
 have h0:Bts (rs0 b).2:=by
  unfold rs0;split
  ·intro x hx; rw [List.mem_singleton.1 hx]; exact h1
  ·split <;> (intro x hx; simp at hx)
 unfold ju;split
 ·exact h0
 ·split
  ·exact hb.snoc h1
  ·split
   ·intro x hx; simp at hx
   ·exact h0
theorem uy {h p:List Int}(hb:Bts h) (hp:Bts p):Bts (bC h p).2:=by
 induction p generalizing h with
 | nil=>exact hb
 | cons b p ih=>exact ih (B8 hb (hp b (by simp))) (fun x hx=>hp x (wT _ hx))
theorem Bz {h p:List Int}(hh:Hh h) (hb:Bts h) (hp:Bts p) (hl:p.length<=1000000):dY h p=some (bC h p):=by
 unfold dY;refine lP (n:=p.length) (fun i s=>s=((bC h (p.take i)).2,(bC h (p.take i)).1,(i:Int))) (fun u=>u=((bC h p).2,(bC h p).1)) (fun i s hi e=>?_) (fun s e=>?_) rfl (by omega) (fun u hu=>?_)
 ·subst e;have hpt:Bts (p.take i):=fun x hx=>hp x (du hx);simp only;rw [ae (dlt hi),bp hi,dL hi (by omega)];simp only [bsm];rw [EQ (hh.feed _) (uy hb hpt) (hp _ (aF hi))];simp only [bsm];have h1:=xv h (p.take i);have h2:=ux (bC h (p.take i)).2 p[i];rw [ay] at h1;rw [cU (by omega)];refine .inl ⟨_,rfl,?_⟩;rw [ax hi,pM]
 ·subst e;refine ⟨_,by simp only; rw [af (by simp)],?_⟩;rw [aC (az _)]
 ·subst hu;rfl
end Go.Proofs.YtclmdpamofdoiaaGreatDoor
