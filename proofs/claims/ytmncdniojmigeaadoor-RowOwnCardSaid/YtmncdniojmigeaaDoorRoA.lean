/- Parts of the proofs of RowOwn: the walk through the code, and plain Lean. No condition. -/
import Derived.WalkKit
import Derived.KernelRfl
import Derived.TacticsIn
import Derived.LoopNIn
import Derived.OrdersIn
import Derived.OpenShut
import Derived.LaidLaws
import Derived.Handed
import Derived.Lay
import Derived.JoinedOf
import Derived.Laws.BytesString
import Derived.Laws.Concat
import Derived.Laws.Strings
import Derived.Laws.Strings2
import Derived.Laws.Strings3
import Derived.Laws.Slices
import Derived.Lib.ConvBytes
import Derived.Test.YtmncdniojmigeaaDoorProg
set_option linter.unusedVariables false
set_option linter.unusedSimpArgs false
abbrev de:=@Go.Addr.add_lit
abbrev bB:=@Array.getD_eq_getD_getElem?
abbrev gA:=@Array.getElem?_eq_none
abbrev ax:=@Bool.and_eq_true
abbrev gd:=@Bool.false_or
abbrev cP:=@Bool.not_eq_true'
abbrev dQ:=@Bool.not_true
abbrev aG:=@Bool.or_eq_true
abbrev gj:=@Go.WideShapes.add_plain
abbrev ig:=@Int.natCast_nonneg
abbrev bK:=@Int.ofNat_lt
abbrev eB:=@List.all_eq_true
abbrev aS:=@List.append_assoc
abbrev dl:=@List.append_nil
abbrev gF:=@List.contains_iff_mem
abbrev eM:=@List.drop_append_of_le_length
abbrev bI:=@List.drop_drop
abbrev dH:=@List.drop_left
abbrev ca:=@List.drop_take
abbrev bt:=@List.eq_nil_of_length_eq_zero
abbrev cO:=@List.ext_getElem?
abbrev eo:=@List.flatten_cons
abbrev fE:=@List.getD_eq_getElem?_getD
abbrev ae:=@List.getElem?_append_left
abbrev af:=@List.getElem?_append_right
abbrev gi:=@List.getElem?_cons_zero
abbrev cH:=@List.getElem?_drop
abbrev ab:=@List.getElem?_eq_getElem
abbrev aQ:=@List.getElem?_eq_none
abbrev cN:=@List.getElem?_map
abbrev cv:=@List.getElem?_range
abbrev ak:=@List.getElem?_set_ne
abbrev ai:=@List.getElem?_set_self
abbrev ba:=@List.getElem?_take
abbrev aP:=@List.getElem?_toArray
abbrev iy:=@List.getElem_mem
abbrev aq:=@List.length_append
abbrev eA:=@List.length_cons
abbrev cg:=@List.length_drop
abbrev bd:=@List.length_map
abbrev fg:=@List.length_nil
abbrev bZ:=@List.length_range
abbrev aN:=@List.length_set
abbrev gE:=@List.length_singleton
abbrev an:=@List.length_take
abbrev aJ:=@List.mem_append_left
abbrev bb:=@List.mem_append_right
abbrev f9:=@List.mem_cons
abbrev cm:=@List.mem_cons_of_mem
abbrev cG:=@List.mem_cons_self
abbrev dG:=@List.mem_of_getElem?
abbrev dk:=@List.nil_append
abbrev ez:=@List.not_mem_nil
abbrev gB:=@List.set_append_right
abbrev iu:=@List.size_toArray
abbrev iw:=@List.take_append
abbrev dd:=@List.take_of_length_le
abbrev bg:=@List.take_succ_eq_append_getElem
abbrev cF:=@List.take_take
abbrev bH:=@Nat.add_mul
abbrev ib:=@Nat.add_sub_cancel
abbrev bS:=@Nat.add_sub_cancel_left
abbrev dr:=@Nat.ble_eq_true_of_le
abbrev dq:=@Nat.eq_of_beq_eq_true
abbrev dW:=@Nat.eq_zero_or_pos
abbrev av:=@Nat.le_of_ble_eq_true
abbrev ay:=@Nat.le_refl
abbrev em:=@Nat.le_trans
abbrev bP:=@Nat.lt_of_lt_of_le
abbrev aw:=@Nat.lt_or_ge
abbrev dj:=@Nat.min_eq_left
abbrev dF:=@Nat.mul_le_mul_right
abbrev dE:=@Nat.one_mul
abbrev el:=@Nat.sub_self
abbrev bJ:=@Nat.succ_pos
abbrev cz:=@Nat.zero_add
abbrev bf:=@Nat.zero_le
abbrev gz:=@Nat.zero_mul
abbrev cM:=@Ne.symm
abbrev fZ:=@Go.Oper.semAt_eq
abbrev ir:=@Go.Oper.uponIn_value
abbrev gg:=@Option.bind_eq_some_iff
abbrev iv:=@Option.bind_some
abbrev cp:=@Option.map_some
abbrev ag:=@Option.some.inj
abbrev aF:=@Option.some.injEq
abbrev dP:=@Prod.mk.injEq
abbrev da:=@Go.RowKit.Below.heap_alloc
abbrev ek:=@Go.Sem.run_bind
abbrev gy:=@Go.Sem.run_pure
abbrev cR:=@Sum.inl.injEq
abbrev dD:=@Go.World.cell?_of_block
abbrev ia:=@Go.World.keptBut_mono
abbrev iB:=@Go.World.var?_cell
abbrev gS:=@beq_eq_false_iff_ne
abbrev cc:=@beq_iff_eq
abbrev eJ:=@Go.cell_of_row
abbrev hU:=@cond_false
abbrev cA:=@congrArg
abbrev cW:=@decide_eq_false_iff_not
abbrev fB:=@decide_eq_true
abbrev be:=@decide_eq_true_eq
abbrev bQ:=@decide_true
abbrev iq:=@dif_neg
abbrev ip:=@dif_pos
abbrev hF:=@Go.execOp_put
abbrev gN:=@Go.getD_set_ne
abbrev aK:=@if_neg
abbrev ao:=@if_pos
abbrev dc:=@if_true
abbrev cK:=@not_false_eq_true
abbrev io:=@of_decide_eq_true
abbrev gY:=@Go.ready_mono
abbrev aW:=@Go.run_underlying
abbrev ep:=@Go.wpIn_mono
abbrev fh:=@Go.wpListIn_plain
namespace Go.Lt
structure Fr where
 n:Nat
 df:List Deferred
 ro:Option Nat
instance:CoeOut Fr Nat:=⟨Fr.n⟩
def fen (r:Option Nat):Fence:={ Fence.wide with round:=r}
def act (n:Fr) (e:Nat→Value):Act:={ tmps:=((List.range n.n).map e).toArray,defers:=n.df}
def ev (n:Nat) (e:Nat→Value):Operand→Value
 | .tmp t=>cond (Nat.ble (t+1) n) (e t) undef
 | .const v=>v
 | .global g=> .pointer (some ⟨g,0,none⟩)
 | .func f=> .func (.func f) #[] #[]
def up (e:Nat→Value) (d:Nat) (v:Value):Nat→Value:=fun t=>cond (Nat.beq t d) v (e t)
def upO (e:Nat→Value):Option Nat→Value→(Nat→Value)
 | some d,v=>up e d v
 | none,_=>e
theorem bY (n:Fr) (e:Nat→Value):(act n e).eval=ev n e:=by
 funext x
 cases x with
 | tmp t=>
  simp only [Act.eval,act,ev];by_cases h:t < n.n
  ·have:Nat.ble (t+1) n.n=true:=dr h;simp [h,this]
  ·have:Nat.ble (t+1) n.n=false:=by
    cases hb:Nat.ble (t+1) n.n with
    | false=>rfl
    | true=>exact absurd (av hb) h
   simp [h,this]
 | const v=>rfl
 | global g=>rfl
 | func f=>rfl
theorem cZ (n:Fr) (e:Nat→Value) (d:Option Nat) (v:Value):(act n e).put d v=act n (upO e d v):=by
 cases d with
 | none=>rfl
 | some d=>
  simp only [Act.put,act,upO]
  congr 1
  apply Array.ext
  ·simp
  ·intro i h1 h2;simp only [iu,bd,bZ,Array.size_setIfInBounds] at h1 h2;by_cases hi:d=i
   ·subst hi; simp [up]
   ·have:Nat.beq i d=false:=by
     cases hb:Nat.beq i d with
     | false=>rfl
     | true=>exact absurd (dq hb).symm hi
    simp [up,hi,this]
def gT:Exit→Prop
 | .panic _=>False
 | .outgrown=>False
 | _=>True
def ee (n:Fr) (Q:Exit→(Nat→Value)→World→Prop):Exit→Act→World→Prop:=fun x a w=>gT x∧∃e,a=act n e∧Q x e w
def W (P:Program) (n:Fr) (c:Code) (Q:Exit→(Nat→Value)→World→Prop) (e:Nat→Value) (w:World):Prop:=c.wpIn (fen n.ro) 0 P (ee n Q) (act n e) w
def dg (K:(Nat→Value)→World→Prop) (Q:Exit→(Nat→Value)→World→Prop):Exit→(Nat→Value)→World→Prop
 | .normal,e,w=>K e w
 | x,e,w=>Q x e w
def cQ (id:Nat) (Q:Exit→(Nat→Value)→World→Prop):Exit→(Nat→Value)→World→Prop
 | .exit i,e,w=>cond (Nat.beq i id) (Q .normal e w) (Q (.exit i) e w)
 | x,e,w=>Q x e w
section
variable {P:Program} {n:Fr} {Q Q':Exit→(Nat→Value)→World→Prop} {e:Nat→Value} {w:World} {a b:Code}
theorem W.mono (h:W P n a Q e w) (hq:∀x e w,Q x e w→Q' x e w):W P n a Q' e w:=
 ep h fun x _ w ⟨ht,e,ha,hQ⟩=>⟨ht,e,ha,hq x e w hQ⟩
theorem W.seq (h:W P n a (dg (W P n b Q) Q) e w):W P n (a.seq b) Q e w:=
 wpIn_seq (ep h fun x a' w' ⟨ht,e',ha,hQ⟩=>by
  subst ha
  cases x with
  | normal=>exact hQ
  | _=>exact ⟨ht,e',rfl,hQ⟩)
theorem W.seqJ (J:(Nat→Value)→World→Prop) (h:W P n a (dg J Q) e w) (hJ:∀e w,J e w→W P n b Q e w):W P n (a.seq b) Q e w:=
 W.seq (W.mono h fun x e w hx=>by cases x <;> first | exact hJ _ _ hx | exact hx)
theorem W.skip (h:Q .normal e w):W P n .skip Q e w:=wpIn_skip ⟨trivial,e,rfl,h⟩
theorem W.ret (h:Q .ret e w):W P n .ret Q e w:=wpIn_ret ⟨trivial,e,rfl,h⟩
theorem W.exit {id:Nat} (h:Q (.exit id) e w):W P n (.exit id) Q e w:=wpIn_exit ⟨trivial,e,rfl,h⟩
theorem W.block {id:Nat} (h:W P n a (cQ id Q) e w):W P n (.block id a) Q e w:=
 wpIn_block (ep h fun x a' w' ⟨ht,e',ha,hQ⟩=>by
  subst ha
  cases x with
  | exit i=>
   simp only [Exit.inBlock];by_cases hi:i=id
   ·subst hi;rw [ao rfl];exact ⟨trivial,e',rfl,by simpa [cQ] using hQ⟩
   ·rw [aK hi];have:Nat.beq i id=false:=by
     cases hb:Nat.beq i id with
     | false=>rfl
     | true=>exact absurd (dq hb) hi
    exact ⟨trivial,e',rfl,by simpa [cQ,this] using hQ⟩
  | _=>exact ⟨ht,e',rfl,hQ⟩)
theorem W.cond {c:Operand} {t:Bool} (hc:ev n e c= .bool t) (ht:t=true→W P n a Q e w) (hf:t=false→W P n b Q e w):W P n (.cond c a b) Q e w:=
 wpIn_cond_split (by rw [bY]; exact hc) ht hf
def WL (P:Program) (ops:Array Oper) (n:Fr) (Q:Exit→(Nat→Value)→World→Prop) (l:List Oper) (e:Nat→Value) (w:World):Prop:=
 wpListIn (fen n.ro) 0 P ops (ee n Q) l (act n e) w
theorem W.region {id:Nat} {l:List Oper} (h:WL P l.toArray n Q l e w):W P n (.region id l.toArray false) Q e w:=wpIn_region_lit h
variable {ops:Array Oper} {o:Oper} {rest:List Oper}
theorem WL.nil (h:Q .normal e w):WL P ops n Q [] e w:=⟨trivial,e,rfl,h⟩
theorem cU {r:Option Nat} {ρ:Operand→Value} {w w':World} {x:Next} (h:(execOp ρ o).run P w= .ok x w') (hx:∀d,x≠ .defer d):(o.semAt r ρ).run P w= .ok x w':=by
 by_cases hd:∀c,o.op≠ .defer c
 ·rw [fZ r ρ o hd]; exact h
 ·obtain ⟨c,hc⟩:=Classical.not_forall.1 hd;have hc:=Classical.not_not.1 hc;unfold execOp at h;rw [hc] at h;simp only [ek,gy] at h
  cases hr:(resolve ρ c o.type).run P w with
  | ok d w1=>rw [hr] at h; simp only [Result.andThen,Result.ok.injEq] at h; exact absurd h.1.symm (hx d)
  | halt h1 w1=>rw [hr] at h; simp [Result.andThen] at h
theorem ej {r:Option Nat} {k:Nat} {f:FuncId} {args:Array Value} {w:World} {R:Ending→World→Prop} (h:Calls P f args w R):CallsIn (fen r) k P f args w R:=(callsIn_wide (n:=k)).2 h
theorem fw {v:Value} {w':World} {K:Act→World→Prop} {Qa:Exit→Act→World→Prop} (hr:(execOp (ev n e) o).run P w= .ok (.value v) w') (h:K (act n (upO e o.dst v)) w'):o.wpIn (fen n.ro) 0 P (act n e) w K Qa:=by
 refine ⟨fun _ _=>trivial,?_⟩;rw [bY,cU hr (by simp),ir,cZ];exact h
theorem gf {w':World} {K:Act→World→Prop} {Qa:Exit→Act→World→Prop} (hr:(execOp (ev n e) o).run P w= .ok .skip w') (h:K (act n (upO e o.dst undef)) w'):o.wpIn (fen n.ro) 0 P (act n e) w K Qa:=by
 refine ⟨fun _ _=>trivial,?_⟩;rw [bY,cU hr (by simp),Oper.uponIn_skip,cZ];exact h
theorem eE {f:FuncId} {args:Array Value} {w':World} {K:Act→World→Prop} {Qa:Exit→Act→World→Prop} (hr:(execOp (ev n e) o).run P w= .ok (.enter f args) w')
  (hc:Calls P f args w' fun x w''=>∃v,x= .returned v∧K (act n (upO e o.dst v)) w''):o.wpIn (fen n.ro) 0 P (act n e) w K Qa:=by
 refine ⟨fun _ _=>trivial,?_⟩;rw [bY,cU hr (by simp),Oper.uponIn_enter];refine ⟨fun h=>(by cases h),(ej hc).mono ?_⟩;rintro x w'' ⟨v,rfl,h⟩;simp only [cZ];exact h
theorem WL.val {v:Value} {w':World} (hg:o.guard=none) (hr:(execOp (ev n e) o).run P w= .ok (.value v) w') (h:WL P ops n Q rest (upO e o.dst v) w'):WL P ops n Q (o :: rest) e w:=
 fh hg fun K hK=>fw hr (hK _ _ h)
theorem WL.do_ {w':World} (hg:o.guard=none) (hr:(execOp (ev n e) o).run P w= .ok .skip w') (h:WL P ops n Q rest (upO e o.dst undef) w'):WL P ops n Q (o :: rest) e w:=
 fh hg fun K hK=>gf hr (hK _ _ h)
theorem WL.call {f:FuncId} {args:Array Value} {w':World} (hg:o.guard=none) (hr:(execOp (ev n e) o).run P w= .ok (.enter f args) w')
  (hc:Calls P f args w' fun x w''=>∃v,x= .returned v∧WL P ops n Q rest (upO e o.dst v) w''):WL P ops n Q (o :: rest) e w:=
 fh hg fun K hK=>eE hr (hc.mono fun x w'' ⟨v,hx,h⟩=>⟨v,hx,hK _ _ h⟩)
def yl (ops:Array Oper) (n:Nat) (e:Nat→Value) (j:Nat):Option Bool:=
 match (ops[j]?).bind Oper.dst with
 | some d=>match ev n e (.tmp d) with
  | .bool b=>some b
  | _=>none
 | none=>none
def aU (ops:Array Oper) (n:Nat) (e:Nat→Value) (o:Oper):Bool:=
 match o.guard with
 | none=>true
 | some (j,want)=>yl ops n e j==some want
theorem ci (ops:Array Oper) (n:Fr) (e:Nat→Value) (o:Oper) (h:∀d,(∃j:Nat,(ops[j]?).bind Oper.dst=some d)→d < n.n):
  Region.wanted o (yielded ops (act n e).tmps)=aU ops n e o:=by
 unfold Region.wanted aU
 cases hg:o.guard with
 | none=>rfl
 | some jw=>
  obtain ⟨j,want⟩:=jw;simp only
  congr 1
  unfold yielded yl
  cases hd:(ops[j]?).bind Oper.dst with
  | none=>rfl
  | some d=>
   have hdn:=h d ⟨j,hd⟩;have:Nat.ble (d+1) n.n=true:=dr hdn;simp only [act,ev,iv,this,cond_true];simp only [aP,cN,cv hdn,cp]
   cases e d <;> rfl
def aM (n:Nat):List Oper→Bool
 | []=>true
 | o :: l=>(match o.dst with | some d=>Nat.ble (d+1) n | none=>true) && aM n l
theorem bp {n:Nat} {l:List Oper} (h:aM n l=true) (d:Nat) (hd:∃j:Nat,(l.toArray[j]?).bind Oper.dst=some d):d < n:=by
 obtain ⟨j,hj⟩:=hd;simp only [aP] at hj
 induction l generalizing j with
 | nil=>simp at hj
 | cons o l ih=>
  simp only [aM,ax] at h
  cases j with
  | zero=>
   simp only [gi,iv] at hj;rw [hj] at h;exact av h.1
  | succ j=>exact ih h.2 j (by simpa using hj)
theorem WL.pass {l:List Oper} (hs:aM n l=true) (hw:aU l.toArray n e o=false) (h:WL P l.toArray n Q rest (upO e o.dst undef) w):WL P l.toArray n Q (o :: rest) e w:=by
 have hww:Region.wanted o (yielded l.toArray (act n e).tmps)=false:=by rw [ci _ _ _ _ (bp hs)]; exact hw
 unfold WL wpListIn;rw [aK (by rw [hww]; simp),cZ];exact ⟨fun _ _=>trivial,h⟩
theorem WL.want {l:List Oper} (hs:aM n l=true) (hw:aU l.toArray n e o=true) (h:WL P l.toArray n Q ({ o with guard:=none} :: rest) e w):WL P l.toArray n Q (o :: rest) e w:=by
 have hww:Region.wanted o (yielded l.toArray (act n e).tmps)=true:=by rw [ci _ _ _ _ (bp hs)]; exact hw
 have hg:Region.wanted ({ o with guard:=none}:Oper) (yielded l.toArray (act n e).tmps)=true:=rfl;unfold WL wpListIn at h⊢;rw [ao hww];rw [ao hg] at h;exact h
theorem W.join (J:(Nat→Value)→World→Prop) (h:W P n a (dg J (fun _ _ _=>False)) e w) (hJ:∀e w,J e w→Q .normal e w):W P n a Q e w:=
 W.mono h fun x e w hx=>by cases x <;> first | exact hJ _ _ hx | exact hx.elim
theorem nrm {K:(Nat→Value)→World→Prop} (h:K e w):dg K Q .normal e w:=h
theorem thx {K:(Nat→Value)→World→Prop} {i:Nat} (h:Q (.exit i) e w):dg K Q (.exit i) e w:=h
theorem thr {K:(Nat→Value)→World→Prop} (h:Q .ret e w):dg K Q .ret e w:=h
theorem bkn {i:Nat} (h:Q .normal e w):cQ i Q .normal e w:=h
theorem bkr {i:Nat} (h:Q .ret e w):cQ i Q .ret e w:=h
theorem bke {i:Nat} (h:Q .normal e w):cQ i Q (.exit i) e w:=by
 have:Nat.beq i i=true:=Nat.beq_refl i;simpa [cQ,this] using h
theorem WL.valb {t b:Bool} {w':World} (ht:t=b) (hg:o.guard=none) (hr:(execOp (ev n e) o).run P w= .ok (.value (.bool t)) w') (h:WL P ops n Q rest (upO e o.dst (.bool b)) w'):WL P ops n Q (o :: rest) e w:=by
 subst ht;exact WL.val hg hr h
theorem WL.val0 {v:Value} (hg:o.guard=none) (hr:(execOp (ev n e) o).run P w= .ok (.value v) w) (h:WL P ops n Q rest (upO e o.dst v) w):WL P ops n Q (o :: rest) e w:=WL.val hg hr h
theorem WL.valb0 {t b:Bool} (ht:t=b) (hg:o.guard=none) (hr:(execOp (ev n e) o).run P w= .ok (.value (.bool t)) w) (h:WL P ops n Q rest (upO e o.dst (.bool b)) w):WL P ops n Q (o :: rest) e w:=WL.valb ht hg hr h
def bN {σ τ:Type}:Nat→(σ→Option (σ ⊕ τ))→σ→Option τ
 | 0,_,_=>none
 | n+1,f,s=>(f s).bind fun x=>match x with
  | .inl s'=>bN n f s'
  | .inr t=>some t
def lpQ {σ τ:Type} (F:σ→(Nat→Value)→World→Prop) (Out:τ→Exit→(Nat→Value)→World→Prop) (x:σ ⊕ τ):Exit→(Nat→Value)→World→Prop
 | .normal,e,w=>∃s,x= .inl s∧F s e w
 | ex,e,w=>∃t,x= .inr t∧Out t ex e w
theorem W.loop {σ τ:Type} {step:σ→Option (σ ⊕ τ)} (F:σ→(Nat→Value)→World→Prop) (Out:τ→Exit→(Nat→Value)→World→Prop)
  (hb:∀s x e w,step s=some x→F s e w→W P n a (lpQ F Out x) e w) {fuel:Nat} {s:σ} {t:τ} (H:bN fuel step s=some t) (h0:F s e w)
  (hQ:∀x e w,Out t x e w→Q x e w):W P n (.loop a) Q e w:=by
 refine wpIn_loop_rounds fuel ?_
 induction fuel generalizing s e w with
 | zero=>cases H
 | succ k ih=>
  rw [roundsIn_succ];simp only [bN] at H
  cases hs:step s with
  | none=>rw [hs] at H; cases H
  | some x=>
   rw [hs] at H;refine ep (hb s x e w hs h0) ?_;rintro y a' w' ⟨ht,e',rfl,hq⟩
   cases x with
   | inl s'=>
    cases y with
    | normal=>
     obtain ⟨s1,h1,h2⟩:=hq;cases h1;exact ih H h2
    | _=>obtain ⟨t1,h1,_⟩:=hq; cases h1
   | inr t'=>
    have:t'=t:=by simpa using H
    subst this
    cases y with
    | normal=>obtain ⟨s1,h1,_⟩:=hq; cases h1
    | _=>obtain ⟨t1,h1,h2⟩:=hq; cases h1; exact ⟨ht,e',rfl,hQ _ _ _ h2⟩
def ar:List Value→Nat→Value
 | [],_=>undef
 | v :: _,0=>v
 | _ :: l,t+1=>ar l t
def cu (P:Program) (fn:Func) (n:Fr) (R:Ending→World→Prop):Exit→(Nat→Value)→World→Prop
 | .normal,e,w=>∃v,(results fn (act n e).tmps).run P w= .ok v w∧R (.returned v) w
 | .ret,e,w=>∃v,(results fn (act n e).tmps).run P w= .ok v w∧R (.returned v) w
 | _,_,_=>False
theorem gx (n:Nat) (l:List Value) (h:l.length≤n):act ⟨n,[],none⟩ (ar l)= { tmps:=l.toArray++Array.replicate (n - l.length) undef,defers:=[]}:=by
 unfold act
 congr 1
 apply Array.ext';apply List.ext_getElem
 ·simp; omega
 ·intro i h1 h2;simp only [List.getElem_map,List.getElem_range,Array.toList_append,Array.toList_replicate];have key:∀(l:List Value) (i:Nat) (h:i < l.length),ar l i=l[i]:=by
   intro l
   induction l with
   | nil=>intro i h; simp at h
   | cons v l ih=>
    intro i h
    cases i with
    | zero=>rfl
    | succ i=>exact ih i (by simpa using h)
  have key2:∀(l:List Value) (i:Nat) (h:l.length≤i),ar l i=undef:=by
   intro l
   induction l with
   | nil=>intro i h; rfl
   | cons v l ih=>
    intro i h
    cases i with
    | zero=>simp at h
    | succ i=>exact ih i (by simpa using h)
  by_cases hi:i < l.length
  ·rw [List.getElem_append_left hi]; exact key l i hi
  ·rw [List.getElem_append_right (by omega)]; rw [key2 l i (by omega)]; simp
theorem enter {f:FuncId} {fn:Func} {code:Code} {n:Nat} {l:List Value} {w:World} {R:Ending→World→Prop} (hf:P.funcs[f]? = some fn) (hb:fn.body=some code) (hn:fn.ntmps=n)
  (hl:Nat.ble l.length n=true) (h:W P ⟨n,[],none⟩ code (cu P fn ⟨n,[],none⟩ R) (ar l) w):Calls P f l.toArray w R:=by
 subst hn;have hl:=av hl;refine (callsIn_wide (n:=0)).1 (callsIn_of_wp hf hb trivial ?_);rw [iu,←gx _ l hl];refine ep h ?_;rintro x a w' ⟨_,e',rfl,hq⟩
 cases x <;> first | exact ⟨rfl,hq⟩ | exact hq.elim
theorem bU (n:Fr) (e:Nat→Value) (t:Nat):(act n e).tmps.getD t undef=ev n e (.tmp t):=by
 rw [←bY]; rfl
theorem gW {fn:Func} {R:Ending→World→Prop} (hr:fn.results= #[]) (h:R (.returned (.tuple #[])) w):cu P fn n R .ret e w:=
 ⟨_,results_none hr _ _ _,h⟩
theorem hH {fn:Func} {R:Ending→World→Prop} (hr:fn.results= #[]) (h:R (.returned (.tuple #[])) w):cu P fn n R .normal e w:=
 ⟨_,results_none hr _ _ _,h⟩
theorem gk {fn:Func} {R:Ending→World→Prop} {t:Nat} {v:Value} (hr:fn.results= #[.tmp t]) (hv:ev n e (.tmp t)=v) (h:R (.returned v) w):cu P fn n R .ret e w:=
 ⟨_,results_tmp hr _ _ _,by rw [bU,hv]; exact h⟩
theorem gV {fn:Func} {R:Ending→World→Prop} {t u:Nat} {v v':Value} (hr:fn.results= #[.tmp t,.tmp u]) (hv:ev n e (.tmp t)=v) (hu:ev n e (.tmp u)=v') (h:R (.returned (.tuple #[v,v'])) w):cu P fn n R .ret e w:=
 ⟨_,results_tmp2 hr _ _ _,by rw [bU,bU,hv,hu]; exact h⟩
def ups (e:Nat→Value):List (Nat×Value)→(Nat→Value)
 | []=>e
 | (t,v) :: l=>up (ups e l) t v
def eg (e:Nat→Value):List (Nat×Value)→Prop
 | []=>True
 | (t,v) :: l=>e t=v∧eg e l
theorem fF (e:Nat→Value) {t:Nat} {v:Value} (h:e t=v):up e t v=e:=by
 funext i
 unfold up;by_cases hb:Nat.beq i t=true
 ·rw [hb,dq hb]; exact h.symm
 ·simp [hb]
theorem dY:∀{l:List (Nat×Value)} {e:Nat→Value},eg e l→e=ups e l
 | [],_,_=>rfl
 | (t,v) :: l,e,h=>by
  have:=dY (l:=l) h.2;rw [ups,←this];exact (fF e h.1).symm
end
def w64 (n:Int):Int:=IntKind.i64.wrap n
def dT (x y:Int):Int:=if y > x then y else x
def et (x y:Int):Int:=if y < x then y else x
theorem bs {α β:Type} {x:Option α} {f:α→Option β} {r:β} (h:x.bind f=some r):∃a,x=some a∧f a=some r:=by
 cases x with
 | none=>cases h
 | some a=>exact ⟨a,rfl,h⟩
theorem it {α:Type} {b:Bool} {x y:Option α} {r:α} (hb:b=true) (h:(if b=true then x else y)=some r):x=some r:=by rw [ao hb] at h; exact h
theorem ie {α:Type} {b:Bool} {x y:Option α} {r:α} (hb:b=false) (h:(if b=true then x else y)=some r):y=some r:=by rw [aK (by simp [hb])] at h; exact h
def orE (t:Bool) (x:Option Bool):Option Bool:=if t=true then some true else x
def ce (t:Bool) (x:Option Bool):Option Bool:=if t=true then x else some false
theorem orT {t:Bool} {x:Option Bool} {d:Bool} (ht:t=true) (h:orE t x=some d):d=true:=by simp [orE,ht] at h; exact h
theorem orF {t:Bool} {x:Option Bool} {d:Bool} (ht:t=false) (h:orE t x=some d):x=some d:=by simpa [orE,ht] using h
theorem anT {t:Bool} {x:Option Bool} {d:Bool} (ht:t=true) (h:ce t x=some d):x=some d:=by simpa [ce,ht] using h
theorem anF {t:Bool} {x:Option Bool} {d:Bool} (ht:t=false) (h:ce t x=some d):d=false:=by simp [ce,ht] at h; exact h
end Go.Lt
namespace Go.Lt
structure Cx where
 w:World
 A:Nat→Nat→Prop
 t:Nat→Nat→Option Nat
structure Cx.le (c c':Cx):Prop where
 os:c'.w.os=c.w.os
 output:c'.w.output=c.w.output
 size:c.w.heap.size≤c'.w.heap.size
 cell:∀k o,k < c.w.heap.size→¬c.A k o→c'.w.cell? ⟨k,o,none⟩=c.w.cell? ⟨k,o,none⟩∧¬c'.A k o
 block:∀k,k < c.w.heap.size→(∀o,¬c.A k o)→c'.w.heap[k]? = c.w.heap[k]?
 frz:∀a,a.block < c.w.heap.size→¬c.A a.block a.off→c'.w.frozen? a=c.w.frozen? a
 t:∀g k b,c.t g k=some b→c'.t g k=some b
theorem Cx.le.refl (c:Cx):c.le c:=⟨rfl,rfl,ay _,fun _ _ _ h=>⟨rfl,h⟩,fun _ _ _=>rfl,fun _ _ _=>rfl,fun _ _ _ h=>h⟩
theorem Cx.le.trans {a b c:Cx} (h:a.le b) (k:b.le c):a.le c:=
 ⟨k.os.trans h.os,k.output.trans h.output,em h.size k.size,fun i o hi hA=>by
  obtain ⟨h1,h2⟩:=h.cell i o hi hA;obtain ⟨k1,k2⟩:=k.cell i o (bP hi h.size) h2;exact ⟨k1.trans h1,k2⟩,fun i hi hA=>(k.block i (bP hi h.size) fun o=>(h.cell i o hi (hA o)).2).trans (h.block i hi hA),
  fun a ha hA=>(k.frz a (bP ha h.size) (h.cell _ _ ha hA).2).trans (h.frz a ha hA),fun g i b hb=>k.t g i b (h.t g i b hb)⟩
structure Cx.lw (c c':Cx):Prop where
 os:c'.w.os=c.w.os
 output:c'.w.output=c.w.output
 size:c.w.heap.size≤c'.w.heap.size
 cell:∀k o,k < c.w.heap.size→¬c.A k o→c'.w.cell? ⟨k,o,none⟩=c.w.cell? ⟨k,o,none⟩∧¬c'.A k o
 block:∀k vs T f,c.w.heap[k]? = some (.cells vs T f)→(∀o,¬c.A k o)→c'.w.heap[k]? = c.w.heap[k]?
 frz:∀a,a.block < c.w.heap.size→¬c.A a.block a.off→c'.w.frozen? a=c.w.frozen? a
 t:∀g k b,c.t g k=some b→c'.t g k=some b
theorem Cx.le.lw {c c':Cx} (h:c.le c'):c.lw c':=⟨h.os,h.output,h.size,h.cell,fun k _ _ _ hk hA=>h.block k (Array.getElem?_eq_some_iff.1 hk).1 hA,h.frz,h.t⟩
instance {c c':Cx}:Coe (c.le c') (c.lw c'):=⟨Cx.le.lw⟩
structure Cx.but (D:Nat→Prop) (c c':Cx):Prop where
 le:c.le c'
 t:c'.t=c.t
 same:∀k,k < c.w.heap.size→¬D k→c'.w.heap[k]? = c.w.heap[k]?∧∀o,c'.A k o↔c.A k o
def Gr (w w':World):Prop:=w.keptBut w' (fun _=>False)∧(∀a,a.block < w.heap.size→w'.frozen? a=w.frozen? a)∧w.heap.size≤w'.heap.size
theorem Gr.frame {w w':World} (h:Gr w w') (may:MemPlace→Prop):w.keptBut w' may:=ia (fun _ f=>f.elim) h.1
theorem Cx.le.grown {w:World} {c':Cx} (h:Cx.le ⟨w,fun _ _=>False,fun _ _=>none⟩ c'):Gr w c'.w:=
 ⟨⟨h.os,h.output,fun i hi=>by
  rw [h.block i hi fun _=>id];have:=World.keptBut_refl w fun _=>False;exact this.2.2 i hi⟩,fun a ha=>h.frz a ha id,h.size⟩
structure Im (c:Cx) (b o:Nat) (v:Value):Prop where
 lt:b < c.w.heap.size
 nA:¬c.A b o
 cell:c.w.cell? ⟨b,o,none⟩=some v
theorem Im.lw {c c':Cx} {b o:Nat} {v:Value} (h:Im c b o v) (k:c.lw c'):Im c' b o v:=by
 obtain ⟨h1,h2⟩:=k.cell b o h.lt h.nA;exact ⟨bP h.lt k.size,h2,h1.trans h.cell⟩
theorem Im.mono {c c':Cx} {b o:Nat} {v:Value} (h:Im c b o v) (k:c.le c'):Im c' b o v:=h.lw k.lw
structure Rp (α:Type) where
 size:Nat
 cells:Cx→List Value→α→Prop
 len:∀{c l x},cells c l x→l.length=size
 one:∀{c l x},cells c l x→∀v∈l,v.oneCell'=true
 mono:∀{c c' l x},c.lw c'→cells c l x→cells c' l x
def RI (k:IntKind):Rp Int where
 size:=1
 cells:=fun _ l n=>l= [.int k n]
 len:=fun h=>by simp [h]
 one:=fun h v hv=>by rw [h] at hv; simp at hv; subst hv; rfl
 mono:=fun _ h=>h
def Sl {α:Type} (R:Rp α) (c:Cx) (v:Value) (xs:List α):Prop:=
 ∃a cap,v= .slice a xs.length cap∧xs.length≤cap∧cap≤maxLen∧
  ∀i x,xs[i]? = some x→∃b off l,a=some ⟨b,off,none⟩∧R.cells c l x∧∀j u,l[j]? = some u→Im c b (off+i * R.size+j) u
theorem Sl.lw {α:Type} {R:Rp α} {c c':Cx} {v:Value} {xs:List α} (h:Sl R c v xs) (k:c.lw c'):Sl R c' v xs:=by
 obtain ⟨a,cap,h1,h2,h3,h4⟩:=h;refine ⟨a,cap,h1,h2,h3,fun i x hx=>?_⟩;obtain ⟨b,off,l,e,hl,hc⟩:=h4 i x hx;exact ⟨b,off,l,e,R.mono k hl,fun j u hu=>(hc j u hu).lw k⟩
theorem Sl.mono {α:Type} {R:Rp α} {c c':Cx} {v:Value} {xs:List α} (h:Sl R c v xs) (k:c.le c'):Sl R c' v xs:=h.lw k.lw
theorem Sl.one {α:Type} {R:Rp α} {c:Cx} {v:Value} {xs:List α} (h:Sl R c v xs):v.oneCell'=true:=by
 obtain ⟨a,cap,rfl,_⟩:=h; rfl
theorem Sl.len_le {α:Type} {R:Rp α} {c:Cx} {v:Value} {xs:List α} (h:Sl R c v xs):xs.length≤9223372036854775807:=by
 obtain ⟨a,cap,_,h1,h2,_⟩:=h;unfold maxLen at h2;omega
theorem Sl.nil {α:Type} (R:Rp α) (c:Cx) (a:Option Addr) (cap:Nat) (h:cap≤maxLen):Sl R c (.slice a 0 cap) []:=
 ⟨a,cap,rfl,bf _,h,fun i x hx=>by simp at hx⟩
theorem Sl.nl {α:Type} (R:Rp α) (c:Cx):Sl R c (.slice none 0 0) []:=Sl.nil R c none 0 (bf _)
def RL {α:Type} (R:Rp α):Rp (List α) where
 size:=1
 cells:=fun c l xs=>∃v,l= [v]∧Sl R c v xs
 len:=fun ⟨v,h,_⟩=>by simp [h]
 one:=fun ⟨v,h,hs⟩ u hu=>by rw [h] at hu; simp at hu; subst hu; exact hs.one
 mono:=fun k ⟨v,h,hs⟩=>⟨v,h,hs.lw k⟩
def Pt (g:Nat) (c:Cx) (v:Value):Option Nat→Prop
 | none=>v= .pointer none
 | some k=>∃b,v= .pointer (some ⟨b,0,none⟩)∧c.t g k=some b
theorem Pt.lw {g:Nat} {c c':Cx} {v:Value} {p:Option Nat} (h:Pt g c v p) (k:c.lw c'):Pt g c' v p:=by
 cases p with
 | none=>exact h
 | some p=>obtain ⟨b,h1,h2⟩:=h; exact ⟨b,h1,k.t _ _ _ h2⟩
theorem Pt.mono {g:Nat} {c c':Cx} {v:Value} {p:Option Nat} (h:Pt g c v p) (k:c.le c'):Pt g c' v p:=h.lw k.lw
theorem Pt.get {g:Nat} {c:Cx} {v:Value} {p:Option Nat} {k:Nat} (h:Pt g c v p) (hp:p=some k):∃b,v= .pointer (some ⟨b,0,none⟩)∧c.t g k=some b:=by subst hp; exact h
theorem Pt.get2 {g:Nat} {c:Cx} {b k:Nat} {p:Option Nat} (h:Pt g c (.pointer (some ⟨b,0,none⟩)) p) (hp:p=some k):c.t g k=some b:=by
 subst hp;obtain ⟨b',h1,h2⟩:=h;cases h1;exact h2
inductive Er where
 | nil
 | sent (g:Nat)
 | fault (i:Int) (e:Er)
structure Fz (c:Cx) (b:Nat):Prop where
 lt:b < c.w.heap.size
 nA:∀o,¬c.A b o
 blk:∃vs T,c.w.heap[b]? = some (.cells vs T (0,0))
theorem Fz.lw {c c':Cx} {b:Nat} (h:Fz c b) (k:c.lw c'):Fz c' b:=by
 obtain ⟨vs,T,hb⟩:=h.blk;exact ⟨bP h.lt k.size,fun o=>(k.cell b o h.lt (h.nA o)).2,vs,T,(k.block b _ _ _ hb h.nA).trans hb⟩
def RE (S T:TypeId) (c:Cx):Value→Er→Prop
 | v,.nil=>v= .nilIface
 | v,.sent g=>∃a,v= .iface S (.pointer (some a))∧Im c g 0 v∧Fz c a.block
 | v,.fault i e=>∃b u,v= .iface T (.pointer (some ⟨b,0,none⟩))∧Im c b 0 (.int .i64 i)∧Im c b 1 u∧RE S T c u e
theorem RE.lw {S T:TypeId} {c c':Cx} {v:Value} {e:Er} (h:RE S T c v e) (k:c.lw c'):RE S T c' v e:=by
 induction e generalizing v with
 | nil=>exact h
 | sent g=>obtain ⟨b,h,hi,hf⟩:=h; exact ⟨b,h,hi.lw k,hf.lw k⟩
 | fault i e ih=>obtain ⟨b,u,h,h1,h2,h3⟩:=h; exact ⟨b,u,h,h1.lw k,h2.lw k,ih h3⟩
theorem RE.mono {S T:TypeId} {c c':Cx} {v:Value} {e:Er} (h:RE S T c v e) (k:c.le c'):RE S T c' v e:=h.lw k.lw
theorem RE.im {S T:TypeId} {c:Cx} {v:Value} {g:Nat} (h:RE S T c v (.sent g)):Im c g 0 v:=by
 obtain ⟨b,_,h,_⟩:=h; exact h
def Er.isNil:Er→Bool
 | .nil=>true
 | _=>false
def sb:Value→Nat
 | .slice (some a) _ _=>a.block
 | _=>0
def so:Value→Nat
 | .slice (some a) _ _=>a.off
 | _=>0
theorem Sl.at {α:Type} {R:Rp α} {c:Cx} {v:Value} {xs:List α} (h:Sl R c v xs) {i:Nat} {x:α} (hx:xs[i]? = some x):
  ∃l,R.cells c l x∧∀j u,l[j]? = some u→Im c (sb v) (so v+i * R.size+j) u:=by
 obtain ⟨a,cap,rfl,_,_,h4⟩:=h;obtain ⟨b,off,l,rfl,hl,hc⟩:=h4 i x hx;exact ⟨l,hl,hc⟩
def idx {α:Type} (xs:List α) (i:Int):Option α:=if 0≤i then xs[i.toNat]? else none
def far:Nat:=1099511627776
def app {α:Type} (xs ys:List α):Option (List α):=if xs.length+ys.length≤far then some (xs++ys) else none
def rep {α:Type} (n:Int) (x:α):Option (List α):=if 0≤n∧n≤far then some (List.replicate n.toNat x) else none
def cJ {α:Type} (xs:List α) (i:Int) (x:α):Option (List α):=if 0≤i∧i < xs.length then some (xs.set i.toNat x) else none
theorem aH {α:Type} {xs:List α} {i:Int} {x:α} (h:idx xs i=some x):xs[i.toNat]? = some x:=by
 unfold idx at h;split at h
 ·exact h
 ·cases h
theorem dw {α:Type} {xs:List α} {i:Int} {x:α} (h:idx xs i=some x):0≤i∧i < xs.length:=by
 have:=aH h;unfold idx at h;split at h
 ·have:=(List.getElem?_eq_some_iff.1 this).1;omega
 ·cases h
structure En where
 v:Value
 T:TypeId
 vs:List Value
 lim:Nat
def blk:Value→Option Nat
 | .pointer (some a)=>some a.block
 | .slice (some a) _ _=>some a.block
 | _=>none
def En.on (e:En) (c:Cx):Prop:=∀b,blk e.v=some b→c.w.heap[b]? = some (.cells e.vs.toArray e.T (0,0))∧∀o,c.A b o↔e.lim≤o
def apart (e e':En):Prop:=∀b,blk e.v=some b→blk e'.v=some b→False
def dp:En:=⟨.nilIface,0,[],0⟩
abbrev Gm:=Nat→Nat→List En
def at_ (G:Gm) (F:List En):Nat ⊕ (Nat×Nat×Nat)→Option En
 | .inl k=>F[k]?
 | .inr (g,k,r)=>(G g k)[r]?
def co {ι:Type} (c:Cx) (M:ι→Option En):Prop:=(∀i e,M i=some e→e.on c)∧∀i j e e',M i=some e→M j=some e'→i≠j→apart e e'
theorem En.on.lt {e:En} {c:Cx} {b:Nat} (h:e.on c) (hb:blk e.v=some b):b < c.w.heap.size:=(Array.getElem?_eq_some_iff.1 (h b hb).1).1
theorem En.on.keep {e:En} {c c':Cx} (h:e.on c) (k:∀b,blk e.v=some b→c'.w.heap[b]? = c.w.heap[b]?∧∀o,c'.A b o↔c.A b o):e.on c':=fun b hb=>
 ⟨(k b hb).1.trans (h b hb).1,fun o=>((k b hb).2 o).trans ((h b hb).2 o)⟩
theorem eH (c:Cx):dp.on c:=fun b hb=>by cases hb
theorem dx (e:En):apart dp e:=fun b hb=>by cases hb
theorem dC (e:En):apart e dp:=fun b _ hb=>by cases hb
theorem co.upd {ι:Type} {c c':Cx} {M M':ι→Option En} (h:co c M) (i:ι) {D:Nat→Prop} (hb:c.but D c') (hD:∀b,D b→∃e,M i=some e∧blk e.v=some b) (hM:∀j,j≠i→M' j=M j)
  {e':En} (hi:M' i=some e') (hon:e'.on c') (hnew:∀b,blk e'.v=some b→(∃e,M i=some e∧blk e.v=some b)∨c.w.heap.size≤b):co c' M':=by
 have key:∀j e,j≠i→M' j=some e→e.on c':=fun j e hj he=>by
  rw [hM j hj] at he;refine (h.1 j e he).keep fun b hbe=>hb.same b ((h.1 j e he).lt hbe) fun hd=>?_;obtain ⟨e2,h2,h3⟩:=hD b hd;exact h.2 j i e e2 he h2 hj b hbe h3
 have far:∀j e,j≠i→M' j=some e→apart e e':=fun j e hj he b h1 h2=>by
  rw [hM j hj] at he;rcases hnew b h2 with ⟨e2,h3,h4⟩ | h3
  ·exact h.2 j i e e2 he h3 hj b h1 h4
  ·exact absurd ((h.1 j e he).lt h1) (Nat.not_lt.2 h3)
 classical
 refine ⟨fun j e he=>?_,fun j k e e2 he he2 hjk=>?_⟩
 ·by_cases hj:j=i
  ·subst hj; rw [hi] at he; cases he; exact hon
  ·exact key j e hj he
 ·by_cases hj:j=i
  ·subst hj;rw [hi] at he; cases he;exact fun b h1 h2=>far k e2 (cM hjk) he2 b h2 h1
  ·by_cases hk:k=i
   ·subst hk; rw [hi] at he2; cases he2; exact far j e hj he
   ·rw [hM j hj] at he; rw [hM k hk] at he2; exact h.2 j k e e2 he he2 hjk
theorem co.re {ι κ:Type} {c:Cx} {M:ι→Option En} {M':κ→Option En} (h:co c M) (f:κ→ι) (hf:∀k e,M' k=some e→M (f k)=some e) (inj:∀k k' e e',M' k=some e→M' k'=some e'→f k=f k'→k=k'):co c M':=
 ⟨fun k e he=>h.1 _ e (hf k e he),fun k k' e e' he he' hne=>h.2 _ _ e e' (hf k e he) (hf k' e' he') fun hh=>hne (inj k k' e e' he he' hh)⟩
structure Own (c:Cx) (G:Gm) (F:List En):Prop where
 m:co c (at_ G F)
 t0:∀g k,G g k= []→c.t g k=none
section
variable {c c':Cx} {G:Gm} {F:List En}
theorem Own.on (O:Own c G F) (k:Nat) {e:En} (h:F[k]? = some e):e.on c:=O.m.1 (.inl k) e h
theorem Own.gon (O:Own c G F) {g k:Nat} {E:List En} (hE:G g k=E) (r:Nat) {e:En} (h:E[r]? = some e):e.on c:=O.m.1 (.inr (g,k,r)) e (by subst hE; exact h)
theorem Own.keep (O:Own c G F) (h:c.but (fun _=>False) c'):Own c' G F:=
 ⟨⟨fun i e he=>(O.m.1 i e he).keep fun b hb=>h.same b ((O.m.1 i e he).lt hb) id,O.m.2⟩,fun g k hk=>by rw [h.t]; exact O.t0 g k hk⟩
theorem Own.set (O:Own c G F) (k:Nat) {e e':En} {D:Nat→Prop} (hk:F[k]? = some e) (hb:c.but D c') (hD:∀b,D b→blk e.v=some b) (hon:e'.on c') (hnew:∀b,blk e'.v=some b→blk e.v=some b∨c.w.heap.size≤b):Own c' G (F.set k e'):=
 ⟨co.upd O.m (.inl k) hb (fun b h=>⟨e,hk,hD b h⟩) (fun j hj=>by
  cases j with
  | inl j=>exact ak (fun e=>hj (by rw [e]))
  | inr j=>rfl) (e':=e') (ai (List.getElem?_eq_some_iff.1 hk).1) hon (fun b h=>(hnew b h).imp (fun h=>⟨e,hk,h⟩) id),fun g k hk=>by rw [hb.t]; exact O.t0 g k hk⟩
theorem Own.sel {F0:List En} {L:List En} (ix:List Nat) (O:Own c G (L++F0)) (hn:ix.Nodup) {L':List En} (hL:ix.map (fun i=>L[i]?)=L'.map some):Own c G (L'++F0):=by
 have hlen:ix.length=L'.length:=by have:=cA List.length hL; simpa using this
 have hget:∀(i:Nat) (hi:i < ix.length),L[ix[i]]? = some (L'[i]'(hlen▸ hi)):=fun i hi=>by
  have:=cA (fun l=>l[i]?) hL;simpa [ab hi,ab (hlen▸ hi:i < L'.length)] using this
 refine ⟨co.re O.m (fun j=>match j with
  | .inl j=>if h:j < ix.length then .inl ix[j] else .inl (j - ix.length+L.length)
  | .inr j=> .inr j) ?_ ?_,O.t0⟩
 ·intro j e he
  cases j with
  | inr j=>exact he
  | inl j=>
   by_cases hj:j < ix.length
   ·simp only [hj,ip];have h2:=hget j hj;have hlt:=(List.getElem?_eq_some_iff.1 h2).1;simp only [at_] at he⊢;rw [ae (hlen▸ hj),ab (hlen▸ hj)] at he;rw [ae hlt,h2,he]
   ·simp only [hj,iq,cK];simp only [at_] at he⊢;rw [af (by omega)] at he;rw [af (by omega),←he]
    congr 1
    omega
 ·intro j j' e e' he he' hh
  cases j with
  | inr j=>
   cases j' with
   | inr j'=>exact hh
   | inl j'=>by_cases hj:j' < ix.length <;> simp [hj] at hh
  | inl j=>
   cases j' with
   | inr j'=>by_cases hj:j < ix.length <;> simp [hj] at hh
   | inl j'=>
    by_cases hj:j < ix.length
    ·have h1:=(List.getElem?_eq_some_iff.1 (hget j hj)).1;by_cases hj':j' < ix.length
     ·simp only [hj,hj',ip,cR] at hh;rw [(List.getElem_inj hn).1 hh]
     ·simp only [hj,hj',ip,iq,cK,cR] at hh;omega
    ·by_cases hj':j' < ix.length
     ·have h1:=(List.getElem?_eq_some_iff.1 (hget j' hj')).1;simp only [hj,hj',ip,iq,cK,cR] at hh;omega
     ·simp only [hj,hj',iq,cK,cR] at hh
      congr 1
      omega
theorem Own.cons (O:Own c G F) {e:En} {D:Nat→Prop} (hb:c.but D c') (hD:∀b,¬D b) (hon:e.on c') (hnew:∀b,blk e.v=some b→c.w.heap.size≤b):Own c' G (e :: F):=by
 have O1:co c (at_ G (dp :: F)):=by
  refine ⟨fun i e he=>?_,fun i j e e' he he' hij=>?_⟩
  ·cases i with
   | inr i=>exact O.m.1 (.inr i) e he
   | inl i=>cases i with
    | zero=>cases he; exact eH c
    | succ i=>exact O.m.1 (.inl i) e he
  ·have pull:∀i,i≠ .inl 0→∀e,at_ G (dp :: F) i=some e→∃i',at_ G F i'=some e∧(match i' with | .inl k=>i= .inl (k+1) | .inr k=>i= .inr k):=fun i hi e he=>by
    cases i with
    | inr i=>exact ⟨.inr i,he,rfl⟩
    | inl i=>cases i with
     | zero=>exact absurd rfl hi
     | succ i=>exact ⟨.inl i,he,rfl⟩
   by_cases hi:i= .inl 0
   ·subst hi; cases he; exact dx _
   ·by_cases hj:j= .inl 0
    ·subst hj; cases he'; exact dC _
    ·obtain ⟨i',h1,h2⟩:=pull i hi e he;obtain ⟨j',h3,h4⟩:=pull j hj e' he';refine O.m.2 i' j' e e' h1 h3 fun hh=>hij ?_;subst hh
     cases i' <;> simp_all
 exact ⟨co.upd O1 (.inl 0) hb (fun b h=>absurd h (hD b)) (fun j hj=>by
  cases j with
  | inr j=>rfl
  | inl j=>cases j with
   | zero=>exact absurd rfl hj
   | succ j=>rfl) (e':=e) rfl hon (fun b h=> .inr (hnew b h)),fun g k hk=>by rw [hb.t]; exact O.t0 g k hk⟩
theorem Own.addHole (O:Own c G F) {e:En} (he:blk e.v=none):Own c G (e :: F):=
 O.cons (D:=fun _=>False) ⟨Cx.le.refl c,rfl,fun _ _ _=>⟨rfl,fun _=>Iff.rfl⟩⟩ (fun _=>id) (fun b hb=>by rw [he] at hb; cases hb) (fun b hb=>by rw [he] at hb; cases hb)
theorem Own.tail {e:En} (O:Own c G (e :: F)):Own c G F:=
 ⟨co.re O.m (fun j=>match j with | .inl j=> .inl (j+1) | .inr j=> .inr j) (fun j e he=>by cases j <;> exact he) (fun j j' _ _ _ _ h=>by
  cases j <;> cases j' <;> simp_all),O.t0⟩
def bM (G:Gm) (g k:Nat) (E:List En):Gm:=fun g' k'=>if g'=g∧k'=k then E else G g' k'
theorem aR (G:Gm) (g k:Nat) (E:List En):bM G g k E g k=E:=by simp [bM]
theorem du {c:Cx} {G:Gm} {g k:Nat} {E:List En} (h:∀g k,G g k= []→c.t g k=none) (hE:E= []→G g k= []):∀g' k',bM G g k E g' k'= []→c.t g' k'=none:=fun g' k' h'=>by
 simp only [bM] at h';split at h'
 ·rename_i hh
  obtain ⟨rfl,rfl⟩:=hh;exact h _ _ (hE h')
 ·exact h _ _ h'
theorem dR {α:Type} {E:List α} {r:Nat} {e:α} (h:E.set r e= []):E= []:=by
 have:=cA List.length h;rw [aN] at this;exact bt this
theorem bO {G:Gm} {g k g' k':Nat} {E:List En} (h:¬(g'=g∧k'=k)):bM G g k E g' k'=G g' k':=by simp only [bM,aK h]
theorem Own.setR (O:Own c G F) {g k:Nat} {E:List En} (r:Nat) {e e':En} {D:Nat→Prop} (hE:G g k=E) (hr:E[r]? = some e) (hb:c.but D c') (hD:∀b,D b→blk e.v=some b) (hon:e'.on c') (hnew:∀b,blk e'.v=some b→blk e.v=some b∨c.w.heap.size≤b):
  Own c' (bM G g k (E.set r e')) F:=by
 subst hE;refine ⟨co.upd O.m (.inr (g,k,r)) hb (fun b h=>⟨e,hr,hD b h⟩) (fun j hj=>?_) (e':=e') ?_ hon (fun b h=>(hnew b h).imp (fun h=>⟨e,hr,h⟩) id),du (fun g k hk=>by rw [hb.t]; exact O.t0 g k hk) dR⟩
 ·cases j with
  | inl j=>rfl
  | inr j=>
   obtain ⟨g',k',r'⟩:=j;by_cases h:g'=g∧k'=k
   ·obtain ⟨rfl,rfl⟩:=h;simp only [at_,aR];exact ak (fun e=>hj (by rw [e]))
   ·simp only [at_,bO h]
 ·simp only [at_,aR];exact ai (List.getElem?_eq_some_iff.1 hr).1
theorem Own.borrow (O:Own c G F) {g k:Nat} {E:List En} (r:Nat) {e:En} (hE:G g k=E) (hr:E[r]? = some e):Own c (bM G g k (E.set r dp)) (e :: F):=by
 subst hE;have hlt:=(List.getElem?_eq_some_iff.1 hr).1;have main:∀g' k' r' e1,at_ (bM G g k ((G g k).set r dp)) (e :: F) (.inr (g',k',r'))=some e1→(g',k',r')≠(g,k,r)→at_ G F (.inr (g',k',r'))=some e1:=fun g' k' r' e1 h1 hne=>by
  simp only [at_] at h1⊢;by_cases h:g'=g∧k'=k
  ·obtain ⟨rfl,rfl⟩:=h;rw [aR,ak (fun e=>hne (by rw [e]))] at h1;exact h1
  ·rwa [bO h] at h1
 have hh:∀e1,at_ (bM G g k ((G g k).set r dp)) (e :: F) (.inr (g,k,r))=some e1→e1=dp:=fun e1 h1=>by
  simp only [at_,aR] at h1;rw [ai hlt] at h1
  cases h1; rfl
 classical
 let f:Nat ⊕ (Nat×Nat×Nat)→Nat ⊕ (Nat×Nat×Nat):=fun j=>match j with
  | .inl 0=> .inr (g,k,r)
  | .inl (j+1)=> .inl j
  | .inr j=> .inr j
 have hf:∀j e1,j≠ .inr (g,k,r)→at_ (bM G g k ((G g k).set r dp)) (e :: F) j=some e1→at_ G F (f j)=some e1:=fun j e1 hj he=>by
  cases j with
  | inl j=>cases j with
   | zero=>cases he; exact hr
   | succ j=>exact he
  | inr j=>exact main j.1 j.2.1 j.2.2 e1 he (fun e=>hj (by rw [←e]))
 refine ⟨⟨fun j e1 he=>?_,fun j j' e1 e2 he he2 hne=>?_⟩,du O.t0 dR⟩
 ·by_cases hj:j= .inr (g,k,r)
  ·subst hj; rw [hh e1 he]; exact eH c
  ·exact O.m.1 (f j) e1 (hf j e1 hj he)
 ·by_cases hj:j= .inr (g,k,r)
  ·subst hj; rw [hh e1 he]; exact dx _
  ·by_cases hj':j'= .inr (g,k,r)
   ·subst hj'; rw [hh e2 he2]; exact dC _
   ·refine O.m.2 (f j) (f j') e1 e2 (hf j e1 hj he) (hf j' e2 hj' he2) fun hff=>?_
    cases j with
    | inl j=>cases j with
     | zero=>cases j' with
      | inl j'=>cases j' with
       | zero=>exact hne rfl
       | succ j'=>simp [f] at hff
      | inr j'=>exact hj' (by simpa [f] using hff.symm)
     | succ j=>cases j' with
      | inl j'=>cases j' with
       | zero=>simp [f] at hff
       | succ j'=>exact hne (by simpa [f] using hff)
      | inr j'=>simp [f] at hff
    | inr j=>cases j' with
     | inl j'=>cases j' with
      | zero=>exact hj (by simpa [f] using hff)
      | succ j'=>simp [f] at hff
     | inr j'=>exact hne (by simpa [f] using hff)
theorem Own.give {e:En} (O:Own c G (e :: F)) {g k:Nat} {E:List En} (r:Nat) {e0:En} (hE:G g k=E) (hr:E[r]? = some e0):Own c (bM G g k (E.set r e)) F:=by
 subst hE;have hlt:=(List.getElem?_eq_some_iff.1 hr).1
 classical
 let f:Nat ⊕ (Nat×Nat×Nat)→Nat ⊕ (Nat×Nat×Nat):=fun j=>match j with
  | .inl j=> .inl (j+1)
  | .inr j=>if j=(g,k,r) then .inl 0 else .inr j
 refine ⟨co.re O.m f (fun j e1 he=>?_) (fun j j' e1 e2 he he2 hff=>?_),du O.t0 dR⟩
 ·cases j with
  | inl j=>exact he
  | inr j=>
   obtain ⟨g',k',r'⟩:=j;by_cases h0:(g',k',r')=(g,k,r)
   ·simp only [dP] at h0;obtain ⟨rfl,rfl,rfl⟩:=h0;simp only [at_,aR] at he;rw [ai hlt] at he;simp only [f,ao];exact he
   ·simp only [f,aK h0];simp only [at_] at he⊢;by_cases h:g'=g∧k'=k
    ·obtain ⟨rfl,rfl⟩:=h;rw [aR,ak (fun e=>h0 (by rw [e]))] at he;exact he
    ·rwa [bO h] at he
 ·cases j with
  | inl j=>cases j' with
   | inl j'=>simpa [f] using hff
   | inr j'=>by_cases h:j'=(g,k,r) <;> simp [f,h] at hff
  | inr j=>cases j' with
   | inl j'=>by_cases h:j=(g,k,r) <;> simp [f,h] at hff
   | inr j'=>
    by_cases h:j=(g,k,r)
    ·by_cases h':j'=(g,k,r)
     ·rw [h,h']
     ·simp [f,h,h'] at hff
    ·by_cases h':j'=(g,k,r)
     ·simp [f,h,h'] at hff
     ·simpa [f,h,h'] using hff
theorem eN (G:Gm) (g k:Nat) (E E':List En):bM (bM G g k E) g k E'=bM G g k E':=by
 funext g' k'
 simp only [bM];split <;> rfl
theorem Own.giveB {e:En} {g k:Nat} {E:List En} (r:Nat) {e0:En} (O:Own c (bM G g k E) (e :: F)) (hr:E[r]? = some e0):Own c (bM G g k (E.set r e)) F:=by
 have:=Own.give O r (aR G g k E) hr
 rwa [eN] at this
theorem co.newObj {E:List En} (O:co c (at_ G (E++F))) {g k:Nat} (hE:G g k= []):co c (at_ (bM G g k E) F):=by
 classical
 let f:Nat ⊕ (Nat×Nat×Nat)→Nat ⊕ (Nat×Nat×Nat):=fun j=>match j with
  | .inl j=> .inl (j+E.length)
  | .inr j=>if j.1=g∧j.2.1=k then .inl j.2.2 else .inr j
 have hr:∀r e,at_ (bM G g k E) F (.inr (g,k,r))=some e→r < E.length:=fun r e he=>by
  simp only [at_,aR] at he;exact (List.getElem?_eq_some_iff.1 he).1
 refine co.re O f (fun j e1 he=>?_) (fun j j' e1 e2 he he2 hff=>?_)
 ·cases j with
  | inl j=>
   simp only [f,at_] at he⊢;rw [af (by omega)];rw [←he]; congr 1; omega
  | inr j=>
   obtain ⟨g',k',r'⟩:=j;by_cases h:g'=g∧k'=k
   ·simp only [f,ao h];obtain ⟨rfl,rfl⟩:=h;have:=hr _ _ he;simp only [at_,aR] at he⊢;rw [ae this]; exact he
   ·simp only [f,aK h];simp only [at_,bO h] at he⊢;exact he
 ·cases j with
  | inl j=>cases j' with
   | inl j'=>simpa [f] using hff
   | inr j'=>
    obtain ⟨g',k',r'⟩:=j';by_cases h:g'=g∧k'=k
    ·obtain ⟨rfl,rfl⟩:=h;have:=hr _ _ he2;simp [f] at hff;omega
    ·simp [f,h] at hff
  | inr j=>
   obtain ⟨g1,k1,r1⟩:=j
   cases j' with
   | inl j'=>
    by_cases h:g1=g∧k1=k
    ·obtain ⟨rfl,rfl⟩:=h;have:=hr _ _ he;simp [f] at hff;omega
    ·simp [f,h] at hff
   | inr j'=>
    obtain ⟨g',k',r'⟩:=j';by_cases h:g1=g∧k1=k
    ·by_cases h':g'=g∧k'=k
     ·simp only [f,ao h,ao h',cR] at hff;obtain ⟨rfl,rfl⟩:=h;obtain ⟨rfl,rfl⟩:=h';rw [hff]
     ·simp [f,h,h'] at hff
    ·by_cases h':g'=g∧k'=k
     ·simp [f,h,h'] at hff
     ·simpa [f,h,h'] using hff
theorem Own.newObj {E:List En} (O:Own c G (E++F)) {g k b:Nat} (hE:G g k= []) (hne:E≠ []):∃c',(c'.w=c.w∧c'.A=c.A)∧c.le c'∧c'.t g k=some b∧Own c' (bM G g k E) F:=by
 have ht:∀g' k' b',c.t g' k'=some b'→¬(g'=g∧k'=k):=fun g' k' b' h hh=>by
  obtain ⟨rfl,rfl⟩:=hh;rw [O.t0 _ _ hE] at h;cases h
 refine ⟨⟨c.w,c.A,fun g' k'=>if g'=g∧k'=k then some b else c.t g' k'⟩,⟨rfl,rfl⟩,⟨rfl,rfl,ay _,fun _ _ _ h=>⟨rfl,h⟩,fun _ _ _=>rfl,fun _ _ _=>rfl,fun g' k' b' h=>?_⟩,by simp,⟨co.newObj O.m hE,fun g' k' h=>?_⟩⟩
 ·simp only [aK (ht g' k' b' h)];exact h
 ·simp only [bM] at h⊢;split at h
  ·exact absurd h hne
  ·rename_i hh
   simp only [aK hh];exact O.t0 _ _ h
structure Rl {α:Type} (Y:Cx→Option Nat→List En→α→Prop) (g:Nat) (c:Cx) (G:Gm) (xs:List α):Prop where
 ob:∀k x,xs[k]? = some x→Y c (c.t g k) (G g k) x
 no:∀k,xs.length≤k→G g k= []
variable {α:Type} {Y:Cx→Option Nat→List En→α→Prop} {g:Nat} {xs:List α}
theorem Rl.mono (h:Rl Y g c G xs) (hm:∀b E x,Y c (some b) E x→Y c' (some b) E x) (hs:∀E x,¬Y c none E x) (hk:c.lw c'):Rl Y g c' G xs:=
 ⟨fun k x hx=>by
  have:=h.ob k x hx
  cases hb:c.t g k with
  | none=>rw [hb] at this; exact absurd this (hs _ _)
  | some b=>rw [hb] at this; rw [hk.t g k b hb]; exact hm b _ _ this,h.no⟩
theorem Rl.set (h:Rl Y g c G xs) {k:Nat} {E:List En} {x:α} (hk:k < xs.length) (hY:Y c (c.t g k) E x):Rl Y g c (bM G g k E) (xs.set k x):=
 ⟨fun j y hy=>by
  by_cases hj:j=k
  ·subst hj;rw [ai hk] at hy;cases hy;rw [aR]; exact hY
  ·rw [ak (cM hj)] at hy;rw [bO (fun e=>hj e.2)];exact h.ob j y hy,fun j hj=>by
  rw [aN] at hj;rw [bO (fun e=>by omega)];exact h.no j hj⟩
theorem Rl.new (h:Rl Y g c G xs) {E:List En} {x:α} (hY:Y c (c.t g xs.length) E x):Rl Y g c (bM G g xs.length E) (xs++ [x]):=
 ⟨fun j y hy=>by
  by_cases hj:j=xs.length
  ·subst hj;rw [af (ay _)] at hy;simp at hy;subst hy;rw [aR]; exact hY
  ·have hlt:j < xs.length:=by
    have:=(List.getElem?_eq_some_iff.1 hy).1;rw [aq] at this;simp at this;omega
   rw [ae hlt] at hy;rw [bO (fun e=>hj e.2)];exact h.ob j y hy,fun j hj=>by
  rw [aq] at hj;simp at hj;rw [bO (fun e=>by omega)];exact h.no j (by omega)⟩
end
end Go.Lt
namespace Go.Lt
def bu (c:Cx) (X:Cx→Value→Prop):Ending→World→Prop:=fun x w=>∃v c',x= .returned v∧w=c'.w∧c.le c'∧X c' v
def Kp (G:Gm) (N:List En) (c:Cx):Prop:=∀i e,at_ G N i=some e→e.on c
theorem Kp.nil {c:Cx} {G:Gm} {F:List En} (O:Own c G F):Kp G [] c:=fun i e h=>by
 cases i with
 | inl i=>simp [at_] at h
 | inr i=>exact O.m.1 (.inr i) e h
def G0:Gm:=fun _ _=>[]
theorem Kp.nil0 {c:Cx}:Kp G0 [] c:=fun i e h=>by
 cases i <;> simp [at_,G0] at h
theorem Kp.cons {c:Cx} {G:Gm} {N:List En} {e:En} (h:e.on c) (k:Kp G N c):Kp G (e :: N) c:=fun i e' h'=>by
 cases i with
 | inl i=>cases i with
  | zero=>cases h'; exact h
  | succ i=>exact k (.inl i) e' h'
 | inr i=>exact k (.inr i) e' h'
theorem Kp.on {c:Cx} {G:Gm} {N:List En} (h:Kp G N c) (k:Nat) {e:En} (hk:N[k]? = some e):e.on c:=h (.inl k) e hk
theorem Kp.gon {c:Cx} {G:Gm} {N:List En} (h:Kp G N c) {g k:Nat} {E:List En} (hE:G g k=E) (r:Nat) {e:En} (hr:E[r]? = some e):e.on c:=h (.inr (g,k,r)) e (by subst hE; exact hr)
def gG (ops:Array Oper) (li:List Bool) (i:Nat) (B:List Nat):List Nat:=
 (List.range ops.size).filter fun j=> !li.getD j true && !(j==i) && (ops[j]?).any fun o=>o.after.any fun x=>Region.binds .any x && ((x.on==i && !li.getD i true) || B.contains x.on)
def fk (ops:Array Oper) (li:List Bool) (i:Nat):Nat→List Nat
 | 0=>[]
 | n+1=>gG ops li i (fk ops li i n)
def okB (ops:Array Oper) (li:List Bool) (i:Nat) (D:List Nat):Bool:=
 let B:=fk ops li i ops.size
 B.all (fun j=> !li.getD j true && !(j==i) && (ops[j]?).any fun o=>o.after.any fun x=>Region.binds .any x && (x.on==i || B.contains x.on)) && D.all fun j=>li.getD j true || B.contains j
section
variable {P:Program} {ops:Array Oper} {n:Fr} {r:Option Nat} {Q:Exit→(Nat→Value)→World→Prop} {D:List Nat} {K:Cx→Prop}
def cS (r:Option Nat) (D:List Nat) (K:Cx→Prop) (P:Program) (ops:Array Oper) (Q:Exit→Act→World→Prop):Nat→Array Bool→Act→Cx→Prop
 | 0,listed,a,c=>Region.ready .any ops listed= []∧Q .normal a c.w
 | fuel+1,listed,a,c=>(Region.ready .any ops listed= []→Q .normal a c.w)∧
  ∀i∈Region.ready .any ops listed,wpOpIn (fen r) 0 P ops Q i (fun a' w=>∃c',w=c'.w∧c.le c'∧(i∈D∨(K c→K c'))∧cS r D K P ops Q fuel (listed.setIfInBounds i true) a' c') a c.w
theorem cS.sound {Q:Exit→Act→World→Prop}:∀(fuel:Nat) (listed:Array Bool) (a:Act) (c:Cx),cS r D K P ops Q fuel listed a c→wpAnyIn (fen r) 0 P .any ops Q fuel listed a c.w
 | 0,_,_,_,h=>h
 | _+1,_,_,_,h=>⟨h.1,fun i hi=>wpOpIn_mono (fun a w ⟨c',hw,_,_,h'⟩=>by subst hw; exact cS.sound _ _ _ _ h') (h.2 i hi)⟩
def Yl (Z:Cx→Prop) (P:Program) (ops:Array Oper) (o:Oper) (v:Value) (a:Act) (c:Cx):Prop:=
 (Region.wanted o (yielded ops a.tmps)=true∧∀c',c.le c'→Z c'→(execOp a.eval o).run P c'.w= .ok (.value v) c'.w)∨
 (Region.wanted o (yielded ops a.tmps)=false∧v=undef)
theorem eO (o:Oper) (hs:∀cs b,o.op≠ .select cs b) (a:Act) (dst:Option Tmp) (v:Value) (h:∀d,dst=some d→d∉o.looksAt ops):
  o.semAt r (a.put dst v).eval=o.semAt r a.eval:=by
 by_cases hd:∀c,o.op≠ .defer c
 ·rw [fZ _ _ _ hd,fZ _ _ _ hd];exact hF o hs a dst v h
 ·obtain ⟨c,hc⟩:=Classical.not_forall.1 hd;have hc:=Classical.not_not.1 hc;have he:resolve (a.put dst v).eval c o.type=resolve a.eval c o.type:=resolve_congr c o.type fun x hx=>Act.eval_put fun d hd hxd=>h d hd (by
   subst hxd;exact aJ _ (List.mem_filterMap.2 ⟨.tmp d,by rw [hc]; simpa [Op.operands] using hx,rfl⟩))
  cases r with
  | none=>exact hF o hs a dst v h
  | some l=>
   unfold Oper.semAt;rw [hc];simp only [he]
theorem Yl.wpOp {Z:Cx→Prop} {i:Nat} {o:Oper} {v:Value} {a:Act} {c:Cx} (hz:Z c) (hi:ops[i]? = some o) (hy:Yl Z P ops o v a c) {Q:Exit→Act→World→Prop} {K:Act→World→Prop}
  (h:K (a.put o.dst v) c.w):wpOpIn (fen r) 0 P ops Q i K a c.w:=by
 unfold Go.wpOpIn;simp only [hi];rcases hy with ⟨hw,hv⟩ | ⟨hw,rfl⟩
 ·rw [ao hw];refine ⟨fun _ _=>trivial,?_⟩;rw [cU (hv c (Cx.le.refl c) hz) (by simp),ir];exact h
 ·rw [aK (by rw [hw]; simp)];exact ⟨fun _ _=>trivial,h⟩
def Wt (ops:Array Oper) (listed:Array Bool) (i:Nat) (B:List Nat):Prop:=
 ∀j∈B,listed.getD j true=false∧j≠i∧∃oj,ops[j]? = some oj∧∃x∈oj.after,Region.binds .any x=true∧(x.on=i∨x.on∈B)
theorem dN (l:List Bool) (j:Nat):l.toArray.getD j true=l.getD j true:=by simp [bB,fE]
theorem fx {l:List Oper} {li:List Bool} {i:Nat} {D:List Nat} (h:okB l.toArray li i D=true):∃B,Wt l.toArray li.toArray i B∧∀j∈D,li.toArray.getD j true=true∨j∈B:=by
 refine ⟨fk l.toArray li i l.toArray.size,fun j hj=>?_,fun j hj=>?_⟩
 ·simp only [okB,ax,eB] at h;have:=h.1 j hj;simp only [cP,gS,ne_eq] at this;obtain ⟨⟨h1,h2⟩,h3⟩:=this;refine ⟨by rw [dN]; exact h1,h2,?_⟩
  cases ho:l.toArray[j]? with
  | none=>rw [ho] at h3; cases h3
  | some oj=>
   rw [ho] at h3;simp only [Option.any_some,Array.any_eq_true',ax,aG,cc,gF] at h3;obtain ⟨x,hx,hb,hon⟩:=h3;exact ⟨oj,rfl,x,hx,hb,hon⟩
 ·simp only [okB,ax,eB] at h;have:=h.2 j hj;simp only [aG,gF] at this;rw [dN];exact this
theorem cS.first {Q:Exit→Act→World→Prop} (hP:∀ch a w,¬Q (.panic ch) a w) (hO:∀a w,¬Q .outgrown a w) {i:Nat} {oi:Oper} {v:Value} (hi:ops[i]? = some oi)
  (hsel:∀(j:Nat) (o:Oper) cs b,ops[j]? = some o→o.op≠ .select cs b) {Z:Cx→Prop} {B:List Nat} (hZ:(∀c,Z c)∨Z=K):
  ∀(fuel:Nat) (listed:Array Bool) (a:Act) (c:Cx),
   (∀j oj,ops[j]? = some oj→j≠i→listed.getD j true=false→(∀x∈oj.after,Region.binds .any x=true→x.on≠i)→oi.apart ops oj=true)→
   Wt ops listed i B→((∀c,Z c)∨∀j∈D,listed.getD j true=true∨j∈B)→Z c→
   i∈Region.ready .any ops listed→Yl Z P ops oi v a c→
   cS r D K P ops Q fuel (listed.setIfInBounds i true) (a.put oi.dst v) c→cS r D K P ops Q (fuel+1) listed a c:=by
 have notB:∀(listed:Array Bool) j,Wt ops listed i B→i∈Region.ready .any ops listed→j∈Region.ready .any ops listed→j∉B:=fun listed j hW hr hj hB=>by
  obtain ⟨_,_,oj,hoj,x,hx,hb,hon⟩:=hW j hB;obtain ⟨_,oj',hoj',hall⟩:=mem_ready.1 hj;rw [hoj] at hoj';cases hoj';have h1:=hall x hx hb;have h0:listed.getD x.on true=false:=by
   rcases hon with h | h
   ·rw [h]; exact (mem_ready.1 hr).1
   ·exact (hW _ h).1
  rcases aw x.on listed.size with h' | h'
  ·simp [h'] at h0 h1; rw [h0] at h1; cases h1
  ·simp [gA h'] at h1
 intro fuel
 induction fuel with
 | zero=>
  intro listed a c _ hW hD hz hr hy H;refine ⟨fun h=>(by rw [h] at hr; cases hr),fun j hj=>?_⟩;by_cases hji:j=i
  ·subst hji; exact hy.wpOp hz hi ⟨c,rfl,Cx.le.refl c,.inr id,H⟩
  ·have:=gY hj hji;rw [H.1] at this;cases this
 | succ fuel ih=>
  intro listed a c hfree hW hD hz hr hy H;refine ⟨fun h=>(by rw [h] at hr; cases hr),fun j hj=>?_⟩;by_cases hji:j=i
  ·subst hji; exact hy.wpOp hz hi ⟨c,rfl,Cx.le.refl c,.inr id,H⟩
  ·have h1:=H.2 j (gY hj hji);obtain ⟨hjun,oj,hoj,hall⟩:=mem_ready.1 hj;have hnot:∀x∈oj.after,Region.binds .any x=true→x.on≠i:=fun x hx hb heq=>by
    have h1:=hall x hx hb;have h0:=(mem_ready.1 hr).1;rw [heq] at h1;rcases aw i listed.size with h' | h'
    ·simp [h'] at h0 h1; rw [h0] at h1; cases h1
    ·simp [gA h'] at h1
   obtain ⟨ha1,ha2,ha3⟩:=Oper.apart_spec (hfree j oj hoj hji hjun hnot);have hfree':∀k ok,ops[k]? = some ok→k≠i→(listed.setIfInBounds j true).getD k true=false→
     (∀x∈ok.after,Region.binds .any x=true→x.on≠i)→oi.apart ops ok=true:=fun k ok hk hki hun hno=>by
    refine hfree k ok hk hki ?_ hno;by_cases hjk:j=k
    ·subst hjk; exact hjun
    ·rw [gN true hjk] at hun; exact hun
   have hW':Wt ops (listed.setIfInBounds j true) i B:=fun k hk=>by
    obtain ⟨h1,h2⟩:=hW k hk;refine ⟨?_,h2⟩;have hjk:j≠k:=fun e=>by subst e; exact notB listed j hW hr hj hk
    rw [gN true hjk];exact h1
   have hD':(∀c,Z c)∨∀k∈D,(listed.setIfInBounds j true).getD k true=true∨k∈B:=hD.imp id fun h k hk=>by
    rcases h k hk with h | h
    ·by_cases hjk:j=k
     ·subst hjk; rw [hjun] at h; cases h
     ·exact .inl (by rw [gN true hjk]; exact h)
    ·exact .inr h
   have keep:∀(b:Act),b.tmps=a.tmps→∀(u:Value) (c':Cx),c.le c'→Yl Z P ops oi v (b.put oj.dst u) c':=fun b hb u c' hc=>by
    have hbe:b.eval=a.eval:=by funext x; cases x <;> simp [Act.eval,hb]
    have he:execOp (b.put oj.dst u).eval oi=execOp a.eval oi:=hbe▸ hF oi (fun cs b=>hsel i oi cs b hi) _ _ _ ha3;have hw:Region.wanted oi (yielded ops (b.put oj.dst u).tmps)=Region.wanted oi (yielded ops a.tmps):=hb▸ wanted_put oi _ _ _ ha3;unfold Yl at hy⊢;rw [he,hw];exact hy.imp (fun ⟨h1,h2⟩=>⟨h1,fun c'' h hz=>h2 c'' (hc.trans h) hz⟩) id
   have fin:∀(b:Act),b.tmps=a.tmps→∀(u:Value) (w:World),(∃c',w=c'.w∧c.le c'∧(j∈D∨(K c→K c'))∧cS r D K P ops Q fuel ((listed.setIfInBounds i true).setIfInBounds j true) ((b.put oi.dst v).put oj.dst u) c')→
     ∃c',w=c'.w∧c.le c'∧(j∈D∨(K c→K c'))∧cS r D K P ops Q (fuel+1) (listed.setIfInBounds j true) (b.put oj.dst u) c':=by
    rintro b hb u w ⟨c',rfl,hle,hk,h⟩;have hz':Z c':=by
     rcases hZ with h | h
     ·exact h c'
     ·rcases hD with h2 | h2
      ·exact h2 c'
      ·rcases hk with h3 | h3
       ·rcases h2 j h3 with h4 | h4
        ·rw [hjun] at h4; cases h4
        ·exact absurd h4 (notB listed j hW hr hj)
       ·subst h; exact h3 hz
    refine ⟨c',rfl,hle,hk,ih _ _ _ hfree' hW' hD' hz' (gY hr (cM hji)) (keep b hb u c' hle) ?_⟩;rw [Array.setIfInBounds_comm _ _ hji,←Act.put_comm b v u ha2];exact h
   have he:oj.semAt r (a.put oi.dst v).eval=oj.semAt r a.eval:=eO oj (fun cs b=>hsel j oj cs b hoj) _ _ _ ha1;have hw:Region.wanted oj (yielded ops (a.put oi.dst v).tmps)=Region.wanted oj (yielded ops a.tmps):=wanted_put oj _ _ _ ha1;unfold Go.wpOpIn at h1⊢;simp only [hoj] at h1⊢;rw [hw] at h1;split
   ·rename_i hww
    rw [ao hww] at h1;refine ⟨fun _ _=>trivial,?_⟩;have h1:=h1.2;have hro:(fen r).round=r:=rfl;rw [hro,he] at h1;rw [hro];generalize (oj.semAt r a.eval).run P c.w=res at h1⊢
    cases res with
    | ok x w'=>
     cases x <;> simp only [Oper.uponIn] at h1⊢
     case value u=>exact fin a rfl _ _ h1
     case skip=>exact fin a rfl _ _ h1
     case defer d=>rw [Act.put_defers] at h1; exact fin { a with defers:=_ :: a.defers} rfl _ _ h1
     case enter f args=>
      refine ⟨h1.1,h1.2.mono fun x w'' hx=>?_⟩
      cases x with
      | returned u=>exact fin a rfl _ _ hx
      | panicked ch=>exact absurd hx (hP _ _ _)
      | outgrown=>obtain ⟨a1,w1,h3⟩:=hx; exact absurd h3 (hO _ _)
     case row row args=>exact ⟨h1.1,h1.2.mono fun u w'' hv=>fin a rfl _ _ hv⟩
     case round l f tmps assign body=>
      refine ⟨h1.1,h1.2.mono fun x w'' hx=>?_⟩
      cases x with
      | returned u=>exact fin a rfl _ _ hx
      | panicked ch=>exact absurd hx (hP _ _ _)
      | outgrown=>obtain ⟨a1,w1,h3⟩:=hx; exact absurd h3 (hO _ _)
    | halt x w'=>
     cases x <;> simp only [Oper.uponIn] at h1⊢
     case panic u=>exact absurd h1 (hP _ _ _)
   ·rename_i hww
    rw [aK hww] at h1;exact ⟨fun _ _=>trivial,fin a rfl _ _ h1.2⟩
def AC (D:List Nat) (K:Cx→Prop) (P:Program) (l:List Oper) (n:Fr) (Q:Exit→(Nat→Value)→World→Prop) (fuel:Nat) (li:List Bool) (e:Nat→Value) (c:Cx):Prop:=
 cS n.ro D K P l.toArray (ee n Q) fuel li.toArray (act n e) c
theorem Cx.drew_le (c:Cx):c.but (fun _=>False) ⟨c.w.drew,c.A,c.t⟩:=⟨⟨rfl,rfl,ay _,fun _ _ _ h=>⟨rfl,h⟩,fun _ _ _=>rfl,fun _ _ _=>rfl,fun _ _ _ h=>h⟩,rfl,fun _ _ _=>⟨rfl,fun _=>Iff.rfl⟩⟩
theorem W.regionD (D:List Nat) (K:Cx→Prop) {id:Nat} {l:List Oper} {e:Nat→Value} {c:Cx} {G:Gm} {F:List En} (O:Own c G F) (hm:P.follows .mixedOrders=true)
  (h:∀c',c.le c'→Own c' G F→AC D K P l n Q l.length (List.replicate l.length false) e c'):W P n (.region id l.toArray true) Q e c.w:=
 wpIn_region_any hm (by
  have:=cS.sound _ _ _ _ (h _ (Cx.drew_le c).le (O.keep (Cx.drew_le c)));rw [show (List.replicate l.length false).toArray=Array.replicate l.toArray.size false by simp] at this;exact this)
variable {l:List Oper} {fuel:Nat} {li:List Bool} {e:Nat→Value} {c:Cx} {o:Oper}
theorem AC.take0 {Z:Cx→Prop} {B:List Nat} (hZ:(∀c,Z c)∨Z=K) {i:Nat} {v:Value} (hi:l.toArray[i]? = some o) (hs:Region.noSelect l.toArray=true) (hf:Region.free .any l.toArray li.toArray i=true)
  (hr:(Region.ready .any l.toArray li.toArray).contains i=true) (hB:Wt l.toArray li.toArray i B) (hD:(∀c,Z c)∨∀j∈D,li.toArray.getD j true=true∨j∈B) (hz:Z c) (hy:Yl Z P l.toArray o v (act n e) c)
  (h:AC D K P l n Q fuel (li.set i true) (upO e o.dst v) c):AC D K P l n Q (fuel+1) li e c:=by
 refine cS.first (fun ch a w h=>h.1) (fun a w h=>h.1) hi (Region.noSelect_spec hs) hZ fuel _ _ c (Region.free_spec hi hf) hB hD hz (by simpa using hr) hy ?_;rw [cZ];simpa [AC] using h
def tk (l:List Oper) (n:Nat) (li:List Bool) (i:Nat):Bool:=
 Region.noSelect l.toArray && Region.free .any l.toArray li.toArray i && (Region.ready .any l.toArray li.toArray).contains i && aM n l
theorem AC.take (i:Nat) (v:Value) (hi:l.toArray[i]? = some o) (ht:tk l n li i=true) (hw:aU l.toArray n e o=true)
  (hy:∀c',c.le c'→(execOp (ev n e) o).run P c'.w= .ok (.value v) c'.w) (h:AC D K P l n Q fuel (li.set i true) (upO e o.dst v) c):AC D K P l n Q (fuel+1) li e c:=by
 simp only [tk,ax] at ht;exact AC.take0 (Z:=fun _=>True) (B:=[]) (.inl fun _=>trivial) hi ht.1.1.1 ht.1.1.2 ht.1.2 (fun j hj=>by simp at hj) (.inl fun _=>trivial) trivial (.inl ⟨by rw [ci _ _ _ _ (bp ht.2)]; exact hw,by rw [bY]; exact fun c' hc _=>hy c' hc⟩) h
theorem AC.takeb (i:Nat) {t b:Bool} (htb:t=b) (hi:l.toArray[i]? = some o) (ht:tk l n li i=true) (hw:aU l.toArray n e o=true)
  (hy:∀c',c.le c'→(execOp (ev n e) o).run P c'.w= .ok (.value (.bool t)) c'.w) (h:AC D K P l n Q fuel (li.set i true) (upO e o.dst (.bool b)) c):AC D K P l n Q (fuel+1) li e c:=by
 subst htb;exact AC.take i _ hi ht hw hy h
theorem AC.takeK (i:Nat) (v:Value) (hk:K c) (hi:l.toArray[i]? = some o) (ht:tk l n li i=true) (hB:okB l.toArray li i D=true) (hw:aU l.toArray n e o=true)
  (hy:∀c',c.le c'→K c'→(execOp (ev n e) o).run P c'.w= .ok (.value v) c'.w) (h:AC D K P l n Q fuel (li.set i true) (upO e o.dst v) c):AC D K P l n Q (fuel+1) li e c:=by
 simp only [tk,ax] at ht;obtain ⟨B,h1,h2⟩:=fx hB;exact AC.take0 (Z:=K) (B:=B) (.inr rfl) hi ht.1.1.1 ht.1.1.2 ht.1.2 h1 (.inr h2) hk (.inl ⟨by rw [ci _ _ _ _ (bp ht.2)]; exact hw,by rw [bY]; exact hy⟩) h
theorem AC.pass (i:Nat) (hi:l.toArray[i]? = some o) (ht:tk l n li i=true) (hw:aU l.toArray n e o=false)
  (h:AC D K P l n Q fuel (li.set i true) (upO e o.dst undef) c):AC D K P l n Q (fuel+1) li e c:=by
 simp only [tk,ax] at ht;exact AC.take0 (Z:=fun _=>True) (B:=[]) (.inl fun _=>trivial) hi ht.1.1.1 ht.1.1.2 ht.1.2 (fun j hj=>by simp at hj) (.inl fun _=>trivial) trivial (.inr ⟨by rw [ci _ _ _ _ (bp ht.2)]; exact hw,rfl⟩) h
def Go1 (D:List Nat) (K:Cx→Prop) (P:Program) (l:List Oper) (n:Fr) (Q:Exit→(Nat→Value)→World→Prop) (fuel:Nat) (li:List Bool) (e:Nat→Value) (c:Cx) (i:Nat):Prop:=
 wpOpIn (fen n.ro) 0 P l.toArray (ee n Q) i (fun a' w=>∃c',w=c'.w∧c.le c'∧(i∈D∨(K c→K c'))∧cS n.ro D K P l.toArray (ee n Q) fuel (li.toArray.setIfInBounds i true) a' c') (act n e) c.w
def fY (p:Nat→Prop):List Nat→Prop
 | []=>True
 | i :: l=>p i∧fY p l
theorem fY.mem {p:Nat→Prop}:∀{l:List Nat},fY p l→∀i∈l,p i
 | [],_,i,hi=>by cases hi
 | a :: l,h,i,hi=>by
  rcases List.mem_cons.1 hi with rfl | hi
  ·exact h.1
  ·exact h.2.mem i hi
theorem AC.many (is:List Nat) (hne:is≠ []) (hr:Region.ready .any l.toArray li.toArray=is) (h:fY (Go1 D K P l n Q fuel li e c) is):AC D K P l n Q (fuel+1) li e c:=
 ⟨fun h0=>(by rw [hr] at h0; exact absurd h0 hne),fun j hj=>h.mem j (hr▸ hj)⟩
theorem Go1.mk {i:Nat} (hi:l.toArray[i]? = some o) (hsl:aM n l=true) (hw:aU l.toArray n e o=true)
  (h:o.wpIn (fen n.ro) 0 P (act n e) c.w (fun a w=>∃e' c',a=act n e'∧w=c'.w∧c.le c'∧(i∈D∨(K c→K c'))∧AC D K P l n Q fuel (li.set i true) e' c') (ee n Q)):Go1 D K P l n Q fuel li e c i:=by
 unfold Go1 wpOpIn;simp only [hi];rw [ao (by rw [ci _ _ _ _ (bp hsl)]; exact hw)];refine Oper.wpIn_mono ?_ h;rintro a w ⟨e',c',rfl,rfl,hle,hk,h'⟩;exact ⟨c',rfl,hle,hk,by simpa [AC] using h'⟩
theorem Go1.val {i:Nat} {v:Value} {c':Cx} (hi:l.toArray[i]? = some o) (hsl:aM n l=true) (hw:aU l.toArray n e o=true)
  (hrun:(execOp (ev n e) o).run P c.w= .ok (.value v) c'.w) (hle:c.le c') (hk:D.contains i=true∨K c') (h:AC D K P l n Q fuel (li.set i true) (upO e o.dst v) c'):Go1 D K P l n Q fuel li e c i:=
 Go1.mk hi hsl hw (fw hrun ⟨_,c',rfl,rfl,hle,hk.imp (by simp) fun h _=>h,h⟩)
theorem Go1.do_ {i:Nat} {c':Cx} (hi:l.toArray[i]? = some o) (hsl:aM n l=true) (hw:aU l.toArray n e o=true)
  (hrun:(execOp (ev n e) o).run P c.w= .ok .skip c'.w) (hle:c.le c') (hk:D.contains i=true∨K c') (h:AC D K P l n Q fuel (li.set i true) (upO e o.dst undef) c'):Go1 D K P l n Q fuel li e c i:=
 Go1.mk hi hsl hw (gf hrun ⟨_,c',rfl,rfl,hle,hk.imp (by simp) fun h _=>h,h⟩)
theorem Go1.call {i:Nat} {f:FuncId} {args:Array Value} {X:Cx→Value→Prop} (hi:l.toArray[i]? = some o) (hsl:aM n l=true) (hw:aU l.toArray n e o=true)
  (hrun:(execOp (ev n e) o).run P c.w= .ok (.enter f args) c.w) (hc:Calls P f args c.w (bu c X))
  (h:∀v c',c.le c'→X c' v→(D.contains i=true∨K c')∧AC D K P l n Q fuel (li.set i true) (upO e o.dst v) c'):Go1 D K P l n Q fuel li e c i:=
 Go1.mk hi hsl hw (eE hrun (hc.mono fun x w=>by
  rintro ⟨v,c',rfl,rfl,hx,hX⟩;have:=h v c' hx hX;exact ⟨v,rfl,_,c',rfl,rfl,hx,this.1.imp (by simp) fun h _=>h,this.2⟩))
theorem AC.done (hr:Region.ready .any l.toArray li.toArray= []) (h:Q .normal e c.w):AC D K P l n Q fuel li e c:=by
 cases fuel with
 | zero=>exact ⟨hr,trivial,e,rfl,h⟩
 | succ k=>exact ⟨fun _=>⟨trivial,e,rfl,h⟩,by rw [hr]; simp⟩
theorem AC.gh {c':Cx} (hw:c'.w=c.w) (hA:c.le c') (hk:K c→K c') (h:AC D K P l n Q fuel li e c'):AC D K P l n Q fuel li e c:=by
 have key:∀(fuel:Nat) (listed:Array Bool) (a:Act),cS n.ro D K P l.toArray (ee n Q) fuel listed a c'→cS n.ro D K P l.toArray (ee n Q) fuel listed a c:=fun fuel listed a h=>by
  cases fuel with
  | zero=>exact ⟨h.1,by rw [←hw]; exact h.2⟩
  | succ fuel=>
   refine ⟨fun h0=>by rw [←hw]; exact h.1 h0,fun i hi=>?_⟩;have:=h.2 i hi;rw [hw] at this;exact wpOpIn_mono (fun a w ⟨c2,h1,h2,h3,h4⟩=>⟨c2,h1,hA.trans h2,h3.imp id fun h5 h6=>h5 (hk h6),h4⟩) this
 exact key _ _ _ h
theorem WL.callP {ops:Array Oper} {rest:List Oper} {f:FuncId} {args:Array Value} {X:Cx→Value→Prop} (hg:o.guard=none) (hr:(execOp (ev n e) o).run P c.w= .ok (.enter f args) c.w)
  (hc:Calls P f args c.w (bu c X)) (h:∀v c',c.le c'→X c' v→WL P ops n Q rest (upO e o.dst v) c'.w):WL P ops n Q (o :: rest) e c.w:=
 WL.call hg hr (hc.mono fun x w ⟨v,c',h1,h2,h3,h4⟩=>⟨v,h1,by subst h2; exact h v c' h3 h4⟩)
theorem WL.gh {ops:Array Oper} {rest:List Oper} {c':Cx} (hw:c'.w=c.w) (h:WL P ops n Q rest e c'.w):WL P ops n Q rest e c.w:=hw▸ h
end
end Go.Lt
namespace Go.Lt
section
variable {P:Program} {c c':Cx} {G:Gm} {F:List En} {α:Type} {R:Rp α}
theorem rv {s:Sem Value} {w w':World} {v:Value} (h:s.run P w= .ok v w'):(do pure (Next.value (←s)):Sem Next).run P w= .ok (.value v) w':=by
  simp [h,Result.andThen]
theorem rs {s:Sem Unit} {w w':World} (h:s.run P w= .ok () w'):(do s; pure Next.skip:Sem Next).run P w= .ok .skip w':=by
  simp [h,Result.andThen]
theorem rx {ρ:Operand→Value} {o:Oper} {s:Sem Value} {w w':World} {v:Value} (hx:execOp ρ o=(do pure (Next.value (←s)):Sem Next)) (h:s.run P w= .ok v w'):(execOp ρ o).run P w= .ok (.value v) w':=by
  rw [hx];exact rv h
theorem eV {v:Value} {xs:List α} {T E:TypeId} {k:IntKind} {i:Int} {x:α} (hT:P.underlying T=some (.slice E)) (hE:(P.info? E).map (·.size)=some R.size)
    (h:Sl R c v xs) (hi:idx xs i=some x) (w:World):(Instr.indexAt T v (.int k i)).run P w= .ok (.pointer (some ⟨sb v,so v+i.toNat * R.size,none⟩)) w:=by
  obtain ⟨a,cap,rfl,_,_,h4⟩:=h;unfold idx at hi;split at hi
  · rename_i h0
    have hlt:i.toNat < xs.length:=by
      rcases aw i.toNat xs.length with h | h
      · exact h
      · rw [aQ h] at hi; cases hi
    obtain ⟨b,off,l,rfl,_,_⟩:=h4 _ _ hi;obtain ⟨ti,hti,hsz⟩:=Option.map_eq_some_iff.1 hE;have hlt':i < xs.length:=by omega
    simp [Instr.indexAt,asIntOf,aW hT,h0,hlt',sizeOf,typeInfo,hti,hsz,sb,so,de]
  · cases hi
theorem fJ {v:Value} {xs:List α} {T E ty:TypeId} (hT:P.underlying T=some (.slice E)) (h:Sl R c v xs) (w:World):
    (Builtin.len_ #[T] ty #[v]).run P w= .ok (.int .i64 (xs.length:Int)) w:=by
  obtain ⟨a,cap,rfl,_⟩:=h;simp [Builtin.len_,aW hT,goInt]
theorem eU {T:TypeId} {b o:Nat} {v:Value} {d:TypeDesc} (hT:P.underlying T=some d) (hd:(match d with | .struct _ | .array _ _=>false | _=>true)=true)
    (h:Im c b o v):(Instr.loadAt T (.pointer (some ⟨b,o,none⟩))).run P c.w= .ok v c.w:=by
  cases d <;> simp_all [Instr.loadAt,Instr.sureAddr,loadVar,isAgg,aW hT,load,Sem.run,h.cell]
theorem cV (b:Nat) {w:World}:∀(l:List Value) (o i:Nat) (acc:Array Value),(∀j u,l[j]? = some u→w.cell? ⟨b,o+i+j,none⟩=some u)→
    (loadCellsFrom ⟨b,o,none⟩ i l.length acc).run P w= .ok (acc++l.toArray) w:=by
  intro l
  induction l with
  | nil=>intro o i acc h; simp [loadCellsFrom]
  | cons v l ih=>
    intro o i acc h;have h0:=h 0 v rfl;simp only [Nat.add_zero] at h0;simp only [eA,loadCellsFrom,de,load,ek,Sem.run,h0,Result.andThen];rw [ih o (i+1) (acc.push v) (fun j u hu=>by have:=h (j+1) u hu; rwa [show o+i+(j+1)=o+(i+1)+j by omega] at this)];simp
theorem cI {w:World} {T:TypeId} {b o:Nat} {l:List Value} (hT:(P.underlying T).map (fun d=>match d with | .struct _ | .array _ _=>true | _=>false)=some true) (hs:(P.info? T).map (·.size)=some l.length)
    (h:∀j u,l[j]? = some u→w.cell? ⟨b,o+j,none⟩=some u):(loadVar T ⟨b,o,none⟩).run P w= .ok (.agg l.toArray) w:=by
  obtain ⟨ti,hti,hsz⟩:=Option.map_eq_some_iff.1 hs;obtain ⟨d,hd,hag⟩:=Option.map_eq_some_iff.1 hT;have h1:=cV (P:=P) (w:=w) b l o 0 #[] (fun j u hu=>h j u hu);have h2:(isAgg T).run P w= .ok true w:=by
    cases d <;> simp_all [isAgg,aW hd]
  rw [←hsz] at h1;simp [loadVar,h2,sizeOf,typeInfo,hti,loadCells,h1,Result.andThen]
theorem eT {T:TypeId} {b o:Nat} {l:List Value} (hT:(P.underlying T).map (fun d=>match d with | .struct _ | .array _ _=>true | _=>false)=some true) (hs:(P.info? T).map (·.size)=some l.length)
    (h:∀j u,l[j]? = some u→Im c b (o+j) u):(Instr.loadAt T (.pointer (some ⟨b,o,none⟩))).run P c.w= .ok (.agg l.toArray) c.w:=by
  simp only [Instr.loadAt,Instr.sureAddr,ek,gy,Result.andThen];exact cI hT hs fun j u hu=>(h j u hu).cell
theorem En.on.cell {e:En} (h:e.on c) {b:Nat} (hb:blk e.v=some b) (j:Nat):c.w.cell? ⟨b,j,none⟩=e.vs[j]? :=by
  simp [World.cell?,(h b hb).1]
theorem fV {T:TypeId} {e:En} {b j:Nat} {v:Value} {d:TypeDesc} (hT:P.underlying T=some d) (hd:(match d with | .struct _ | .array _ _=>false | _=>true)=true)
    (h:e.on c) (hb:blk e.v=some b) (hj:e.vs[j]? = some v):(Instr.loadAt T (.pointer (some ⟨b,j,none⟩))).run P c.w= .ok v c.w:=by
  have hc:c.w.cell? ⟨b,j,none⟩=some v:=by rw [h.cell hb,hj]
  cases d <;> simp_all [Instr.loadAt,Instr.sureAddr,loadVar,isAgg,aW hT,load,Sem.run]
theorem fU {T:TypeId} {e:En} {b j:Nat} {l:List Value} (hT:(P.underlying T).map (fun d=>match d with | .struct _ | .array _ _=>true | _=>false)=some true) (hs:(P.info? T).map (·.size)=some l.length)
    (h:e.on c) (hb:blk e.v=some b) (hl:(e.vs.drop j).take l.length=l):(Instr.loadAt T (.pointer (some ⟨b,j,none⟩))).run P c.w= .ok (.agg l.toArray) c.w:=by
  simp only [Instr.loadAt,Instr.sureAddr,ek,gy,Result.andThen];refine cI hT hs fun i u hu=>?_;have:(e.vs.drop j)[i]? = some u:=by
    rw [←hl,ba] at hu;split at hu
    · exact hu
    · cases hu
  rw [cH] at this;rw [h.cell hb,this]
def cf:List Value→Prop
  | []=>True
  | u :: l=>u.oneCell'=true∧cf l
theorem cf.mem:∀{l:List Value},cf l→∀u∈l,u.oneCell'=true
  | [],_,u,hu=>by cases hu
  | a :: l,h,u,hu=>by
    rcases List.mem_cons.1 hu with rfl | hu
    · exact h.1
    · exact h.2.mem u hu
theorem frozen?_row {w w':World} {b:Nat} {l m:Array Value} {T:TypeId} (h:w.heap[b]? = some (.cells l T (0,0))) (h':w'.heap[b]? = some (.cells m T (0,0))) (ho:∀k,k≠b→w'.heap[k]? = w.heap[k]?) (a:Addr):w'.frozen? a=w.frozen? a:=by
  by_cases hk:a.block=b
  · simp [World.frozen?,hk,h,h']
  · simp [World.frozen?,ho _ hk]
theorem Cx.row {b:Nat} {l m:List Value} {T:TypeId} (h:c.w.heap[b]? = some (.cells l.toArray T (0,0))) (lim:Nat) (hA:∀o,c.A b o↔lim≤o) (hs:∀o,o < lim→m[o]? = l[o]?) (lim':Nat) (hl:lim≤lim'):
    ∃c':Cx,c'.w=c.w.setRow b m.toArray∧c.but (fun k=>k=b) c'∧c'.w.heap[b]? = some (.cells m.toArray T (0,0))∧∀o,c'.A b o↔lim'≤o:=by
  have hbk:=setRow_heap c.w b l.toArray m.toArray T (0,0) h;have hoth:∀k,k≠b→(c.w.setRow b m.toArray).heap[k]? = c.w.heap[k]? :=fun k hk=>setRow_other c.w b k _ hk;have hsz:(c.w.setRow b m.toArray).heap.size=c.w.heap.size:=by simp [World.setRow]
  refine ⟨⟨c.w.setRow b m.toArray,fun k o=>(k≠b∧c.A k o)∨(k=b∧lim'≤o),c.t⟩,rfl,⟨⟨rfl,rfl,by rw [hsz]; exact ay _,fun k o hk hnA=>?_,fun k hk hnA=>?_,fun a _ _=>frozen?_row h hbk hoth a,fun _ _ _ h=>h⟩,rfl,fun k hk hkb=>⟨hoth k hkb,fun o=>?_⟩⟩,hbk,fun o=>?_⟩
  · by_cases hkb:k=b
    · subst hkb
      have ho:o < lim:=by
        rcases aw o lim with h | h
        · exact h
        · exact absurd ((hA o).2 h) hnA
      refine ⟨?_,?_⟩
      · rw [cell_setRow_same c.w k o l.toArray _ T (0,0) h,eJ c.w k o l.toArray T (0,0) h,aP,aP,hs o ho]
      · rintro (h | h)
        · exact h.1 rfl
        · omega
    · refine ⟨dD (w:=c.w) (a:=⟨k,o,none⟩) (hoth k hkb),?_⟩
      rintro (h | h)
      · exact hnA h.2
      · exact hkb h.1
  · by_cases hkb:k=b
    · subst hkb
      exact absurd ((hA lim).2 (ay _)) (hnA lim)
    · exact hoth k hkb
  · simp [hkb]
  · simp
theorem stE {T:TypeId} {e:En} {b o:Nat} {us:List Value} {v:Value} (h:e.on c) (hb:blk e.v=some b) (hlim:e.lim=0) (hv:v.cells.toList=us) (hs:(P.info? T).map (·.size)=some us.length) (h1:cf us)
    (hl:o+us.length≤e.vs.length):∃c',(Instr.storeAt T (.pointer (some ⟨b,o,none⟩)) v).run P c.w= .ok () c'.w∧c.but (fun k=>k=b) c'∧(⟨e.v,e.T,e.vs.take o++us++e.vs.drop (o+us.length),0⟩:En).on c':=by
  obtain ⟨ti,hti,hsz⟩:=Option.map_eq_some_iff.1 hs;have hh:=h b hb;have h2:=run_storeCells_at P b o e.T us 0 e.vs.toArray c.w hh.1 (by simpa using hl) h1.mem;have hz:v.cells.size=us.length:=by rw [←hv]; simp
  simp only [Nat.add_zero] at h2;obtain ⟨c',e1,e2,e3,e4⟩:=Cx.row (m:=e.vs.take o++us++e.vs.drop (o+us.length)) hh.1 e.lim hh.2 (fun o ho=>by omega) 0 (by omega);refine ⟨c',?_,e2,fun b' hb'=>?_⟩
  · rw [e1]
    simp [Instr.storeAt,Instr.sureAddr,storeVar,sizeOf,typeInfo,hti,hsz,hz,hv,h2,Result.andThen]
  · simp only at hb'
    rw [hb] at hb';cases hb';exact ⟨e3,e4⟩
variable {ρ:Operand→Value} {o:Oper}
theorem Own.st {T:TypeId} {e:En} {b j:Nat} {us nw:List Value} {v:Value} (k:Nat) (O:Own c G F) (hx:execOp ρ o=(do Instr.storeAt T (.pointer (some ⟨b,j,none⟩)) v; pure Next.skip:Sem Next)) (hk:F[k]? = some e) (hb:blk e.v=some b) (hlim:e.lim=0)
    (hv:v.cells.toList=us) (hs:(P.info? T).map (·.size)=some us.length) (h1:cf us) (hl:Nat.ble (j+us.length) e.vs.length=true) (hn:e.vs.take j++us++e.vs.drop (j+us.length)=nw):
    ∃c',(execOp ρ o).run P c.w= .ok .skip c'.w∧c.le c'∧Own c' G (F.set k ⟨e.v,e.T,nw,0⟩):=by
  subst hn;obtain ⟨c',h1,h2,h3⟩:=stE (O.on k hk) hb hlim hv hs h1 (av hl);exact ⟨c',by rw [hx]; exact rs h1,h2.le,O.set k hk h2 (fun b' hb'=>by rw [hb,hb']) h3 (fun b h=> .inl h)⟩
theorem Own.stG {T:TypeId} {e:En} {b j:Nat} {us nw:List Value} {v:Value} {g k:Nat} {E:List En} (r:Nat) (O:Own c G F) (hx:execOp ρ o=(do Instr.storeAt T (.pointer (some ⟨b,j,none⟩)) v; pure Next.skip:Sem Next)) (hE:G g k=E) (hr:E[r]? = some e) (hb:blk e.v=some b) (hlim:e.lim=0)
    (hv:v.cells.toList=us) (hs:(P.info? T).map (·.size)=some us.length) (h1:cf us) (hl:Nat.ble (j+us.length) e.vs.length=true) (hn:e.vs.take j++us++e.vs.drop (j+us.length)=nw):
    ∃c',(execOp ρ o).run P c.w= .ok .skip c'.w∧c.le c'∧Own c' (bM G g k (E.set r ⟨e.v,e.T,nw,0⟩)) F:=by
  subst hn;obtain ⟨c',h1,h2,h3⟩:=stE (O.gon hE r hr) hb hlim hv hs h1 (av hl);exact ⟨c',by rw [hx]; exact rs h1,h2.le,O.setR r hE hr h2 (fun b' hb'=>by rw [hb,hb']) h3 (fun b h=> .inl h)⟩
theorem Cx.new (c:Cx) (vs:List Value) (T:TypeId) (lim:Nat):∃c':Cx,c'.w=c.w.alloc (.cells vs.toArray T)∧c.but (fun _=>False) c'∧c'.w.heap[c.w.heap.size]? = some (.cells vs.toArray T (0,0))∧c.w.heap.size < c'.w.heap.size∧∀o,c'.A c.w.heap.size o↔lim≤o:=
  ⟨⟨c.w.alloc (.cells vs.toArray T),fun k p=>(k < c.w.heap.size∧c.A k p)∨(k=c.w.heap.size∧lim≤p),c.t⟩,rfl,
   ⟨⟨rfl,rfl,by simp,fun k p hk hA=>⟨dD (w:=c.w) (a:=⟨k,p,none⟩) (da _ _ _ hk),by rintro (h | h); exact hA h.2; omega⟩,fun k hk _=>da _ _ _ hk,fun a _ _=>RowKit.frozen?_alloc_cells _ _ _ _,fun _ _ _ h=>h⟩,rfl,
    fun k hk _=>⟨da _ _ _ hk,fun p=>⟨by rintro (h | h); exact h.2; omega,fun h=> .inl ⟨hk,h⟩⟩⟩⟩,heap_alloc_new c.w _,by simp,fun o=>by simp⟩
theorem Own.al {T:TypeId} {vs:List Value} (O:Own c G F) (hr:(execOp ρ o).run P c.w= .ok (.value (.pointer (some ⟨c.w.heap.size,0,none⟩))) (c.w.alloc (.cells vs.toArray T))):
    ∃v c',(execOp ρ o).run P c.w= .ok (.value v) c'.w∧c.le c'∧∃b,v= .pointer (some ⟨b,0,none⟩)∧Own c' G (⟨.pointer (some ⟨b,0,none⟩),T,vs,0⟩ :: F):=by
  obtain ⟨c',h1,h2,h3,_,h4⟩:=Cx.new c vs T 0;refine ⟨_,c',by rw [h1]; exact hr,h2.le,_,rfl,O.cons h2 (fun _=>id) (fun b hb=>?_) (fun b hb=>?_)⟩
  · simp only [blk,aF] at hb; subst hb; exact ⟨h3,h4⟩
  · simp only [blk,aF] at hb; omega
theorem Own.bx {T:TypeId} {vs:List Value} (O:Own c G F) (hr:(execOp ρ o).run P c.w= .ok (.value (.pointer (some ⟨c.w.heap.size,0,none⟩))) (c.w.alloc (.cells vs.toArray T))):
    ∃v c',(execOp ρ o).run P c.w= .ok (.value v) c'.w∧c.le c'∧∃b,v= .pointer (some ⟨b,0,none⟩)∧Own c' G F∧∀j u,vs[j]? = some u→Im c' b (0+j) u:=by
  obtain ⟨c',h1,h2,h3,h5,h4⟩:=Cx.new c vs T vs.length;refine ⟨_,c',by rw [h1]; exact hr,h2.le,_,rfl,O.keep h2,fun j u hu=>⟨h5,fun hA=>?_,?_⟩⟩
  · have h6:=(h4 _).1 hA
    have:=(List.getElem?_eq_some_iff.1 hu).1;omega
  · rw [eJ _ _ _ _ _ _ h3,aP,cz,hu]
def AR (R:Rp α) (c:Cx) (vs:List Value) (xs:List α):Prop:=∀i x,xs[i]? = some x→R.cells c ((vs.drop (i * R.size)).take R.size) x
def OA (R:Rp α) (c:Cx) (v:Value) (vs:List Value) (xs:List α):Prop:=
  0 < R.size∧((v= .slice none 0 0∧xs= [])∨∃g cap,v= .slice (some ⟨g,0,none⟩) xs.length cap∧xs.length≤cap∧cap≤maxLen∧cap * R.size≤vs.length)∧AR R c vs xs
def es (m:Bool) (R:Rp α) (v:Value) (E:TypeId) (vs:List Value) (xs:List α):En:=⟨v,E,vs,cond m 0 (xs.length * R.size)⟩
theorem AR.lw {vs:List Value} {xs:List α} (h:AR R c vs xs) (k:c.lw c'):AR R c' vs xs:=fun i x hx=>R.mono k (h i x hx)
theorem AR.mono {vs:List Value} {xs:List α} (h:AR R c vs xs) (k:c.le c'):AR R c' vs xs:=h.lw k.lw
theorem OA.lw {v:Value} {vs:List Value} {xs:List α} (h:OA R c v vs xs) (k:c.lw c'):OA R c' v vs xs:=⟨h.1,h.2.1,h.2.2.lw k⟩
theorem OA.mono {v:Value} {vs:List Value} {xs:List α} (h:OA R c v vs xs) (k:c.le c'):OA R c' v vs xs:=h.lw k.lw
theorem OA.nil (h0:0 < R.size):OA R c (.slice none 0 0) [] []:=⟨h0,.inl ⟨rfl,rfl⟩,fun i x h=>by simp at h⟩
theorem OA.one {v:Value} {vs:List Value} {xs:List α} (h:OA R c v vs xs):v.oneCell'=true:=by
  rcases h.2.1 with ⟨rfl,_⟩ | ⟨g,cap,rfl,_⟩ <;> rfl
theorem fp {v:Value} {vs:List Value} {xs:List α} {T E ty:TypeId} (hT:P.underlying T=some (.slice E)) (h:OA R c v vs xs) (w:World):
    (Builtin.len_ #[T] ty #[v]).run P w= .ok (.int .i64 (xs.length:Int)) w:=by
  rcases h.2.1 with ⟨rfl,rfl⟩ | ⟨g,cap,rfl,_⟩ <;> simp [Builtin.len_,aW hT,goInt]
theorem bC {β:Type} {a b:List β} {i s:Nat} (h:i+s≤a.length):((a++b).drop i).take s=(a.drop i).take s:=by
  rw [eM (by omega),List.take_append_of_le_length (by rw [cg]; omega)]
theorem bD {i k s:Nat} (h:i < k):i * s+s≤k * s:=by
  have:=dF s (show i+1≤k by omega);rw [bH,dE] at this;exact this
theorem AR.len {vs:List Value} {xs:List α} (h:AR R c vs xs) (hp:0 < R.size):xs.length * R.size≤vs.length:=by
  rcases dW xs.length with h0 | h0
  · rw [h0,gz]; exact bf _
  · have hx:xs[xs.length - 1]? = some xs[xs.length - 1]:=ab (by omega)
    have:=R.len (h _ _ hx);rw [an,cg] at this;have e:xs.length * R.size=(xs.length - 1) * R.size+R.size:=by
      conv=>lhs; rw [show xs.length=xs.length - 1+1 by omega,bH,dE]
    omega
theorem OA.sl {v:Value} {E:TypeId} {vs:List Value} {xs:List α} (h:OA R c v vs xs) (hon:(es false R v E vs xs).on c):Sl R c v xs:=by
  obtain ⟨hp,h1,h2⟩:=h;rcases h1 with ⟨rfl,rfl⟩ | ⟨g,cap,rfl,hc,hm,hcs⟩
  · exact Sl.nl R c
  · obtain ⟨h3,h4⟩:=hon g rfl
    refine ⟨_,cap,rfl,hc,hm,fun i x hx=>⟨g,0,_,rfl,h2 i x hx,fun j u hu=>?_⟩⟩;have hj:j < R.size∧vs[i * R.size+j]? = some u:=by
      rw [ba] at hu;split at hu
      · rename_i hj
        exact ⟨hj,by rwa [cH] at hu⟩
      · cases hu
    have hi:=bD (s:=R.size) (List.getElem?_eq_some_iff.1 hx).1;refine ⟨(Array.getElem?_eq_some_iff.1 h3).1,fun hA=>?_,?_⟩
    · have:=(h4 _).1 hA
      simp only [es,hU] at this;omega
    · rw [eJ _ _ _ _ _ _ h3,aP,cz]
      exact hj.2
theorem Own.frz {v:Value} {E:TypeId} {vs:List Value} {xs:List α} (k:Nat) (O:Own c G F) (hk:F[k]? = some (es true R v E vs xs)) (h:OA R c v vs xs):
    ∃c',c'.w=c.w∧c.le c'∧Own c' G (F.set k (es false R v E vs xs))∧Sl R c' v xs:=by
  have hon:=O.on k hk
  let c':Cx:=⟨c.w,fun b o=>c.A b o∧¬(blk v=some b∧o < xs.length * R.size),c.t⟩
  have hle:c.le c':=⟨rfl,rfl,ay _,fun _ _ _ h=>⟨rfl,fun h2=>h h2.1⟩,fun _ _ _=>rfl,fun _ _ _=>rfl,fun _ _ _ h=>h⟩;have hb:c.but (fun b=>blk v=some b) c':=⟨hle,rfl,fun b hb hd=>⟨rfl,fun o=>⟨fun h=>h.1,fun h=>⟨h,fun h2=>hd h2.1⟩⟩⟩⟩;have hon':(es false R v E vs xs).on c':=fun b hb=>by
    obtain ⟨h1,h2⟩:=hon b hb;refine ⟨h1,fun o=>?_⟩;have hb':blk v=some b:=hb;simp only [c',hb',true_and,es,hU];rw [h2 o];simp [es]
  exact ⟨c',rfl,hle,O.set k hk hb (fun b h=>h) hon' (fun b h=> .inl h),(h.mono hle).sl hon'⟩
theorem Sl.flat {u:Value} {ys:List α} (h:Sl R c u ys):∃nw:List Value,nw.length=ys.length * R.size∧(∀j w,nw[j]? = some w→Im c (sb u) (so u+j) w)∧(∀w∈nw,w.oneCell'=true)∧
    (∀i x,ys[i]? = some x→R.cells c ((nw.drop (i * R.size)).take R.size) x):=by
  suffices ∀k,k≤ys.length→∃nw:List Value,nw.length=k * R.size∧(∀j w,nw[j]? = some w→Im c (sb u) (so u+j) w)∧(∀w∈nw,w.oneCell'=true)∧
      (∀i x,i < k→ys[i]? = some x→R.cells c ((nw.drop (i * R.size)).take R.size) x) by
    obtain ⟨nw,h1,h2,h3,h4⟩:=this ys.length (ay _);exact ⟨nw,h1,h2,h3,fun i x hx=>h4 i x (List.getElem?_eq_some_iff.1 hx).1 hx⟩
  intro k
  induction k with
  | zero=>exact fun _=>⟨[],by simp,by simp,by simp,fun i x hi=>by omega⟩
  | succ k ih=>
    intro hk;obtain ⟨nw,h1,h2,h3,h4⟩:=ih (by omega);have hx:ys[k]? = some ys[k]:=ab (by omega);obtain ⟨l,hl,hc⟩:=h.at hx;have hll:=R.len hl;refine ⟨nw++l,by rw [aq,h1,hll,bH,dE],fun j w hw=>?_,fun w hw=>?_,fun i x hi hxi=>?_⟩
    · rcases aw j nw.length with hj | hj
      · rw [ae hj] at hw
        exact h2 j w hw
      · rw [af hj] at hw
        have:=hc _ _ hw;rw [h1] at this
        rwa [show so u+k * R.size+(j - k * R.size)=so u+j by omega] at this
    · rcases List.mem_append.1 hw with hw | hw
      · exact h3 w hw
      · exact R.one hl w hw
    · rcases aw i k with hik | hik
      · rw [bC (by rw [h1]; exact bD hik)]
        exact h4 i x hik hxi
      · obtain rfl:i=k:=by omega
        rw [hx] at hxi;cases hxi;rw [←h1,dH,dd (by omega)];exact hl
theorem dm (z:Array Value) (n:Nat):(Builtin.zeroCells z n).size=n * z.size:=by simp [Builtin.zeroCells]
theorem ew {E t ty:TypeId} {v:Value} {vs:List Value} {xs ys zs:List α} {z:Value} {by_:Nat} {m:Bool} {ua:Option Addr} {ucap:Nat} {nw:List Value} (k:Nat) (O:Own c G F) (hk:F[k]? = some (es m R v E vs xs)) (h:OA R c v vs xs)
    (n1:nw.length=ys.length * R.size) (n2:ys≠ []→∃ub uo,ua=some ⟨ub,uo,none⟩∧∀j w,nw[j]? = some w→c.w.cell? ⟨ub,uo+j,none⟩=some w) (n3:∀w∈nw,w.oneCell'=true) (n4:∀i x,ys[i]? = some x→R.cells c ((nw.drop (i * R.size)).take R.size) x) (happ:app xs ys=some zs)
    (hT:P.underlying t=some (.slice E)) (hi:(P.info? E).map (fun i=>(i.zero,i.size,i.bytes))=some (some z,R.size,by_)) (hz:z.cells.size=R.size) (hby:Nat.ble by_ 128=true):
    ∃v' c',(Builtin.append_ #[t,t] ty #[v,.slice ua ys.length ucap]).run P c.w= .ok v' c'.w∧c.le c'∧∃vs',Own c' G (F.set k (es m R v' E vs' zs))∧OA R c' v' vs' zs:=by
  have hby:=av hby;have hfar:xs.length+ys.length≤far∧xs++ys=zs:=by
    unfold app at happ;split at happ
    · exact ⟨by assumption,by simpa using happ⟩
    · cases happ
  obtain ⟨hfar,rfl⟩:=hfar;unfold far at hfar;obtain ⟨ti,hti,hzz⟩:=Option.map_eq_some_iff.1 hi;simp only [dP] at hzz;obtain ⟨hz1,hz2,hz3⟩:=hzz;have hon:=O.on k hk;have hklt:=(List.getElem?_eq_some_iff.1 hk).1;have hh:=h;obtain ⟨hp,h1,h2⟩:=h;by_cases hys:ys= []
  · subst hys
    refine ⟨v,c,?_,Cx.le.refl c,vs,?_,by rw [dl]; exact hh⟩
    · rcases h1 with ⟨rfl,rfl⟩ | ⟨g,cap,rfl,hcap,_⟩
      · cases ua <;> simp [Builtin.append_,aW hT,sizeOf,typeInfo,hti,Builtin.lenOf,Builtin.firstCells,loadCells,loadCellsFrom,storeCells]
      · cases ua <;> simp [Builtin.append_,aW hT,sizeOf,typeInfo,hti,Builtin.lenOf,Builtin.firstCells,loadCells,loadCellsFrom,storeCells,hcap]
    · rw [dl]
      have:F.set k (es m R v E vs xs)=F:=by
        apply cO;intro j;by_cases hj:k=j
        · subst hj; rw [ai hklt,hk]
        · rw [ak hj]
      rw [this]; exact O
  · have hpos:0 < ys.length:=by
      rcases dW ys.length with h | h
      · exact absurd (bt h) hys
      · exact h
    obtain ⟨ub,uo,hua,n5⟩:=n2 hys;subst hua;have hcells:∀j w,nw[j]? = some w→c.w.cell? ((⟨ub,uo,none⟩:Addr).add j)=some w:=fun j w hw=>by
      rw [de];exact n5 j w hw
    have hN:(xs++ys).length=xs.length+ys.length:=aq;have hxl:=h2.len hp;have helem:∀(c':Cx) (tail:List Value),c.le c'→AR R c' (vs.take (xs.length * R.size)++nw++tail) (xs++ys):=fun c' tail hcc i x hx=>by
      have hlt:(vs.take (xs.length * R.size)).length=xs.length * R.size:=by rw [an]; omega
      rcases aw i xs.length with hi' | hi'
      · have hm:=bD (s:=R.size) hi'
        rw [aS,bC (by rw [hlt]; exact hm)];rw [ae hi'] at hx;have:=h2 i x hx;rw [ca,cF,show min R.size (xs.length * R.size - i * R.size)=R.size by omega];exact R.mono hcc this
      · rw [af hi'] at hx
        have h4:=n4 _ _ hx;have hiy:=bD (s:=R.size) (List.getElem?_eq_some_iff.1 hx).1;have e:i * R.size=xs.length * R.size+(i - xs.length) * R.size:=by rw [←bH]; congr 1; omega
        have e2:(vs.take (xs.length * R.size)++(nw++tail)).drop (xs.length * R.size)=nw++tail:=by
          conv=>lhs; arg 1; rw [←hlt]
          exact dH
        rw [aS,e,←bI,e2,bC (by rw [n1]; omega)];exact R.mono hcc h4
    have hbytes:(xs.length+ys.length) * ti.bytes≤140737488355328:=by
      rw [hz3];exact em (Nat.mul_le_mul hfar hby) (by decide)
    have fresh:∀old,old < xs.length+ys.length→
        ∃v' c',Result.ok (α:=Value) (.slice (some ⟨c.w.heap.size,0,none⟩) (xs.length+ys.length) (grownCap c.w (xs.length+ys.length) old E)) (c.w.drew.alloc (.cells ((vs.take (xs.length * R.size)).toArray++nw.toArray++Builtin.zeroCells z.cells (grownCap c.w (xs.length+ys.length) old E - (xs.length+ys.length))) E))= .ok v' c'.w∧c.le c'∧
        ∃vs',Own c' G (F.set k (es m R v' E vs' (xs++ys)))∧OA R c' v' vs' (xs++ys):=by
      intro old ho;have hge:=grownCap_ge c.w (xs.length+ys.length) old E;have hcm:grownCap c.w (xs.length+ys.length) old E≤maxLen:=grownCap_le_maxLen c.w _ old E (by unfold maxLen; omega);have hd:=Cx.drew_le c;obtain ⟨c',e1,e2,e3,e4,e5⟩:=Cx.new ⟨c.w.drew,c.A,c.t⟩ ((vs.take (xs.length * R.size))++nw++(Builtin.zeroCells z.cells (grownCap c.w (xs.length+ys.length) old E - (xs.length+ys.length))).toList) E (cond m 0 ((xs++ys).length * R.size));have ea:((vs.take (xs.length * R.size))++nw++(Builtin.zeroCells z.cells (grownCap c.w (xs.length+ys.length) old E - (xs.length+ys.length))).toList).toArray=(vs.take (xs.length * R.size)).toArray++nw.toArray++Builtin.zeroCells z.cells (grownCap c.w (xs.length+ys.length) old E - (xs.length+ys.length)):=by
        apply Array.ext'; simp
      refine ⟨.slice (some ⟨c.w.heap.size,0,none⟩) (xs.length+ys.length) (grownCap c.w (xs.length+ys.length) old E),c',by rw [e1,ea],hd.le.trans e2.le,(vs.take (xs.length * R.size))++nw++(Builtin.zeroCells z.cells (grownCap c.w (xs.length+ys.length) old E - (xs.length+ys.length))).toList,Own.set (O.keep hd) k hk e2 (fun b (h:False)=>h.elim) (fun b hb=>?_) (fun b hb=>?_),hp,.inr ⟨c.w.heap.size,_,by rw [hN],by rw [hN]; exact hge,hcm,?_⟩,?_⟩
      · simp only [es,blk,aF] at hb; subst hb; exact ⟨e3,e5⟩
      · simp only [es,blk,aF] at hb; subst hb; exact .inr (ay _)
      · simp only [aq,Array.length_toList,dm,hz,n1,an]
        have:grownCap c.w (xs.length+ys.length) old E * R.size=xs.length * R.size+ys.length * R.size+(grownCap c.w (xs.length+ys.length) old E - (xs.length+ys.length)) * R.size:=by
          rw [←bH,←bH]; congr 1; omega
        rw [this,dj hxl];exact ay _
      · exact helem c' _ (hd.le.trans e2.le)
    rcases h1 with ⟨rfl,rfl⟩ | ⟨g,cap,rfl,hnc,hcm,hcs⟩
    · have hr:=run_append_nil (P:=P) c.w t ty E ti z hT hti hz1 ⟨ub,uo,none⟩ ys.length ucap nw (by rw [n1,hz2]) hcells hpos (by simp at hfar; omega) (by have:=hbytes; simp at this; omega)
      have:=fresh 0 (by simpa using hpos);simp only [fg,cz,gz,List.take_zero,Array.empty_append,dk] at this hr⊢;rw [hr];simpa using this
    · obtain ⟨hg,hA⟩:=hon g rfl
      by_cases hroom:xs.length+ys.length≤cap
      · have hfit:xs.length * R.size+nw.length≤vs.length:=by
          rw [n1,←bH];exact em (dF _ hroom) hcs
        have hr:=run_append_room (P:=P) c.w t ty E ti hT hti g xs.length cap vs.toArray hg ⟨ub,uo,none⟩ ys.length ucap nw (by rw [n1,hz2]) hcells n3 hroom (by rw [hz2]; simpa using hfit);rw [hz2] at hr;simp only at hr;obtain ⟨c',e1,e2,e3,e4⟩:=Cx.row (m:=vs.take (xs.length * R.size)++nw++vs.drop (xs.length * R.size+nw.length)) hg _ hA (fun o ho=>by
          have ho:o < xs.length * R.size:=by
            cases m
            · exact ho
            · exact absurd ho (Nat.not_lt_zero _)
          rw [aS,ae (by rw [an]; omega),ba,ao ho];rfl) (cond m 0 ((xs++ys).length * R.size)) (by
            cases m
            · simp only [es,hU]; exact dF _ (by rw [hN]; omega)
            · exact ay _)
        refine ⟨.slice (some ⟨g,0,none⟩) (xs.length+ys.length) cap,c',by rw [hr,e1],e2.le,vs.take (xs.length * R.size)++nw++vs.drop (xs.length * R.size+nw.length),Own.set O k hk e2 (fun b h=>by subst h; rfl) (fun b hb=>?_) (fun b hb=> .inl hb),hp,.inr ⟨g,cap,by rw [hN],by rw [hN]; exact hroom,hcm,?_⟩,helem c' _ e2.le⟩
        · simp only [es,blk,aF] at hb; subst hb; exact ⟨e3,e4⟩
        · simp only [aq,cg,an]
          omega
      · have eg:∀j w,(vs.take (xs.length * R.size))[j]? = some w→c.w.cell? ((⟨g,0,none⟩:Addr).add j)=some w:=fun j w hw=>by
          rw [de,cz,eJ _ _ _ _ _ _ hg,aP];rw [ba] at hw;split at hw
          · exact hw
          · cases hw
        have hr:=run_append_grow (P:=P) c.w t ty E ti z hT hti hz1 ⟨g,0,none⟩ xs.length cap (vs.take (xs.length * R.size)) (by rw [an,hz2]; omega) eg ⟨ub,uo,none⟩ ys.length ucap nw (by rw [n1,hz2]) hcells (by omega) (by omega) (growslice_fits (by omega) hbytes);rw [hr];exact fresh cap (by omega)
theorem fe {E t ty:TypeId} {v u:Value} {vs:List Value} {xs ys zs:List α} {z:Value} {by_:Nat} {m:Bool} (k:Nat) (O:Own c G F) (hk:F[k]? = some (es m R v E vs xs)) (h:OA R c v vs xs) (hS:Sl R c u ys) (happ:app xs ys=some zs)
    (hT:P.underlying t=some (.slice E)) (hi:(P.info? E).map (fun i=>(i.zero,i.size,i.bytes))=some (some z,R.size,by_)) (hz:z.cells.size=R.size) (hby:Nat.ble by_ 128=true):
    ∃v' c',(Builtin.append_ #[t,t] ty #[v,u]).run P c.w= .ok v' c'.w∧c.le c'∧∃vs',Own c' G (F.set k (es m R v' E vs' zs))∧OA R c' v' vs' zs:=by
  obtain ⟨nw,n1,n2,n3,n4⟩:=hS.flat;obtain ⟨ua,ucap,rfl,hu1,hu2,hu3⟩:=hS;refine ew k O hk h n1 (fun hys=>?_) n3 n4 happ hT hi hz hby;have hpos:0 < ys.length:=by
    rcases dW ys.length with h | h
    · exact absurd (bt h) hys
    · exact h
  obtain ⟨ub,uo,_,hua,_⟩:=hu3 0 ys[0] (ab hpos);subst hua;exact ⟨ub,uo,rfl,fun j w hw=>(n2 j w hw).cell⟩
end
end Go.Lt
namespace Go.Lt
section
variable {P:Program} {c c':Cx} {G:Gm} {F:List En} {α:Type} {R:Rp α} {ρ:Operand→Value} {o:Oper}
variable {n:Fr} {ops:Array Oper} {Q:Exit→(Nat→Value)→World→Prop} {rest:List Oper} {e:Nat→Value} {D:List Nat} {K:Cx→Prop} {l:List Oper} {fuel:Nat} {li:List Bool}
theorem WL.mem {X:Value→Cx→Prop} (hg:o.guard=none) (hr:∃v c',(execOp (ev n e) o).run P c.w= .ok (.value v) c'.w∧c.le c'∧X v c')
  (h:∀v c',c.le c'→X v c'→WL P ops n Q rest (upO e o.dst v) c'.w):WL P ops n Q (o :: rest) e c.w:=by
 obtain ⟨v,c',h1,h2,h3⟩:=hr;exact WL.val hg h1 (h v c' h2 h3)
theorem WL.memD {X:Cx→Prop} (hg:o.guard=none) (hr:∃c',(execOp (ev n e) o).run P c.w= .ok .skip c'.w∧c.le c'∧X c')
  (h:∀c',c.le c'→X c'→WL P ops n Q rest (upO e o.dst undef) c'.w):WL P ops n Q (o :: rest) e c.w:=by
 obtain ⟨c',h1,h2,h3⟩:=hr;exact WL.do_ hg h1 (h c' h2 h3)
theorem Go1.mem (i:Nat) {X:Value→Cx→Prop} (hi:l.toArray[i]? = some o) (hsl:aM n l=true) (hw:aU l.toArray n e o=true) (hr:∃v c',(execOp (ev n e) o).run P c.w= .ok (.value v) c'.w∧c.le c'∧X v c')
  (h:∀v c',c.le c'→X v c'→(D.contains i=true∨K c')∧AC D K P l n Q fuel (li.set i true) (upO e o.dst v) c'):Go1 D K P l n Q fuel li e c i:=by
 obtain ⟨v,c',h1,h2,h3⟩:=hr;have:=h v c' h2 h3;exact Go1.val hi hsl hw h1 h2 this.1 this.2
theorem Go1.memD (i:Nat) {X:Cx→Prop} (hi:l.toArray[i]? = some o) (hsl:aM n l=true) (hw:aU l.toArray n e o=true) (hr:∃c',(execOp (ev n e) o).run P c.w= .ok .skip c'.w∧c.le c'∧X c')
  (h:∀c',c.le c'→X c'→(D.contains i=true∨K c')∧AC D K P l n Q fuel (li.set i true) (upO e o.dst undef) c'):Go1 D K P l n Q fuel li e c i:=by
 obtain ⟨c',h1,h2,h3⟩:=hr;have:=h c' h2 h3;exact Go1.do_ hi hsl hw h1 h2 this.1 this.2
theorem Go1.callP (i:Nat) {f:FuncId} {args:Array Value} {X:Cx→Value→Prop} (hi:l.toArray[i]? = some o) (hsl:aM n l=true) (hw:aU l.toArray n e o=true)
  (hrun:(execOp (ev n e) o).run P c.w= .ok (.enter f args) c.w) (hc:Calls P f args c.w (bu c X))
  (h:∀v c',c.le c'→X c' v→(D.contains i=true∨K c')∧AC D K P l n Q fuel (li.set i true) (upO e o.dst v) c'):Go1 D K P l n Q fuel li e c i:=Go1.call hi hsl hw hrun hc h
theorem AC.one (i:Nat) (hr:Region.ready .any l.toArray li.toArray= [i]) (h:Go1 D K P l n Q fuel li e c i):AC D K P l n Q (fuel+1) li e c:=AC.many [i] (by simp) hr ⟨h,trivial⟩
theorem Sl.form {v:Value} {xs:List α} (h:Sl R c v xs):∃a n k,v= .slice a n k:=by
 obtain ⟨a,cap,h,_⟩:=h; exact ⟨_,_,_,h⟩
theorem OA.form {v:Value} {vs:List Value} {xs:List α} (h:OA R c v vs xs):∃a n k,v= .slice a n k:=by
 rcases h.2.1 with ⟨h,_⟩ | ⟨g,cap,h,_⟩ <;> exact ⟨_,_,_,h⟩
theorem va (v:Value) {w:World} (h:WL P ops n Q rest (upO e o.dst v) w) (hg:o.guard=none:=by exact rfl) (hr:(execOp (ev n e) o).run P w= .ok (.value v) w:=by kernel_rfl):WL P ops n Q (o :: rest) e w:=WL.val0 hg hr h
theorem vb {t b:Bool} {w:World} (ht:t=b) (h:WL P ops n Q rest (upO e o.dst (.bool b)) w) (hg:o.guard=none:=by exact rfl) (hr:(execOp (ev n e) o).run P w= .ok (.value (.bool t)) w:=by kernel_rfl):WL P ops n Q (o :: rest) e w:=WL.valb0 ht hg hr h
theorem ps {l:List Oper} {w:World} (h:WL P l.toArray n Q rest (upO e o.dst undef) w) (hs:aM n l=true:=by kernel_rfl) (hw:aU l.toArray n e o=false:=by kernel_rfl):WL P l.toArray n Q (o :: rest) e w:=WL.pass hs hw h
theorem wn {l:List Oper} {w:World} (h:WL P l.toArray n Q ({ o with guard:=none} :: rest) e w) (hs:aM n l=true:=by kernel_rfl) (hw:aU l.toArray n e o=true:=by kernel_rfl):WL P l.toArray n Q (o :: rest) e w:=WL.want hs hw h
theorem ta (i:Nat) (v:Value) (h:AC D K P l n Q fuel (li.set i true) (upO e o.dst v) c) (hi:l.toArray[i]? = some o:=by exact rfl) (ht:tk l n li i=true:=by kernel_rfl) (hw:aU l.toArray n e o=true:=by kernel_rfl)
  (hy:∀w,(execOp (ev n e) o).run P w= .ok (.value v) w:=by intro w; kernel_rfl):AC D K P l n Q (fuel+1) li e c:=AC.take i v hi ht hw (fun c' _=>hy c'.w) h
theorem sr {b:Code} {id:Nat} {l:List Oper} {w:World} (h:WL P l.toArray n (dg (W P n b Q) Q) l e w):W P n ((Code.region id l.toArray false).seq b) Q e w:=W.seq (W.region h)
theorem wln {K:(Nat→Value)→World→Prop} {Q:Exit→(Nat→Value)→World→Prop} {w:World} (h:K e w):WL P ops n (dg K Q) [] e w:=WL.nil (nrm h)
theorem vv {o':Oper} (v:Value) {w:World} (h:WL P ops n Q rest (upO (upO e o.dst v) o'.dst v) w) (hg:o.guard=none:=by exact rfl) (hr:(execOp (ev n e) o).run P w= .ok (.value v) w:=by kernel_rfl) (hg':o'.guard=none:=by exact rfl) (hr':(execOp (ev n (upO e o.dst v)) o').run P w= .ok (.value v) w:=by kernel_rfl):WL P ops n Q (o :: o' :: rest) e w:=va v (va v h hg' hr') hg hr
theorem wa {l:List Oper} (v:Value) {w:World} (h:WL P l.toArray n Q rest (upO e o.dst v) w) (hs:aM n l=true:=by kernel_rfl) (hw:aU l.toArray n e o=true:=by kernel_rfl) (hr:(execOp (ev n e) { o with guard:=none}).run P w= .ok (.value v) w:=by kernel_rfl):WL P l.toArray n Q (o :: rest) e w:=wn (va v h rfl hr) hs hw
theorem pz {l:List Oper} {o':Oper} {w:World} (h:WL P l.toArray n Q rest (upO (upO e o.dst undef) o'.dst undef) w) (hs:aM n l=true:=by kernel_rfl) (hw:aU l.toArray n e o=false:=by kernel_rfl) (hw':aU l.toArray n (upO e o.dst undef) o'=false:=by kernel_rfl):WL P l.toArray n Q (o :: o' :: rest) e w:=ps (ps h hs hw') hs hw
theorem OA.blk {v:Value} {vs:List Value} {xs:List α} {i:Int} {x:α} (h:OA R c v vs xs) (hi:idx xs i=some x):Go.Lt.blk v=some (sb v):=by
 rcases h.2.1 with ⟨_,rfl⟩ | ⟨g,cap,rfl,_⟩
 ·have:=dw hi; simp at this; omega
 ·rfl
theorem er {v:Value} {vs:List Value} {xs:List α} {T E:TypeId} {k:IntKind} {i:Int} {x:α} (hT:P.underlying T=some (.slice E)) (hE:(P.info? E).map (·.size)=some R.size)
  (h:OA R c v vs xs) (hi:idx xs i=some x) (w:World):(Instr.indexAt T v (.int k i)).run P w= .ok (.pointer (some ⟨sb v,i.toNat * R.size,none⟩)) w:=by
 obtain ⟨h1,h2⟩:=dw hi;rcases h.2.1 with ⟨_,rfl⟩ | ⟨g,cap,rfl,_⟩
 ·simp at h2; omega
 ·obtain ⟨ti,hti,hsz⟩:=Option.map_eq_some_iff.1 hE;simp [Instr.indexAt,asIntOf,aW hT,h1,h2,sizeOf,typeInfo,hti,hsz,sb,de]
theorem OA.at {v:Value} {vs:List Value} {xs:List α} {i:Int} {x:α} (h:OA R c v vs xs) (hi:idx xs i=some x):∃l,R.cells c l x∧(vs.drop (i.toNat * R.size)).take R.size=l:=⟨_,h.2.2 _ _ (aH hi),rfl⟩
theorem at1 {vs l:List Value} {p n j:Nat} {u:Value} (h:(vs.drop p).take n=l) (hj:l[j]? = some u):vs[p+j]? = some u:=by
 subst h;rw [ba] at hj;split at hj
 ·rwa [cH] at hj
 ·cases hj
theorem at2 {vs l l':List Value} {p n j:Nat} (h:(vs.drop p).take n=l) (hj:(l.drop j).take l'.length=l'):(vs.drop (p+j)).take l'.length=l':=by
 subst h
 conv=>rhs; rw [←hj]
 rw [ca,bI,cF];have h1:=cA List.length hj;rw [ca,bI,cF,an] at h1
 congr 1
 omega
theorem Own.stO {T E:TypeId} {v:Value} {vs:List Value} {xs xs':List α} {i:Int} {x x':α} {j:Nat} {us l l':List Value} {u:Value} (k:Nat) (O:Own c G F) (hx:execOp ρ o=(do Instr.storeAt T (.pointer (some ⟨sb v,i.toNat * R.size+j,none⟩)) u; pure Next.skip:Sem Next))
  (hk:F[k]? = some (es true R v E vs xs)) (h:OA R c v vs xs) (hset:cJ xs i x'=some xs') (hm:(vs.drop (i.toNat * R.size)).take R.size=l) (hv:u.cells.toList=us) (hs:(P.info? T).map (·.size)=some us.length) (h1:cf us)
  (hl:Nat.ble (j+us.length) R.size=true) (hn:l.take j++us++l.drop (j+us.length)=l') (hx':R.cells c l' x'):
  ∃c',(execOp ρ o).run P c.w= .ok .skip c'.w∧c.le c'∧∃vs',Own c' G (F.set k (es true R v E vs' xs'))∧OA R c' v vs' xs':=by
 have hl:=av hl;unfold cJ at hset;split at hset
 ·rename_i hi
  cases hset;have hbk:Go.Lt.blk v=some (sb v):=by
   rcases h.2.1 with ⟨_,rfl⟩ | ⟨g,cap,rfl,_⟩
   ·exfalso; simp at hi; omega
   ·rfl
  have hp:=h.1;have hxl:=h.2.2.len hp;have hms:=bD (s:=R.size) (show i.toNat < xs.length by omega);obtain ⟨c',r1,r2,r3⟩:=stE (P:=P) (T:=T) (o:=i.toNat * R.size+j) (O.on k hk) hbk rfl hv hs h1 (by simp only [es]; omega);have hlen:(vs.take (i.toNat * R.size+j)++us++vs.drop (i.toNat * R.size+j+us.length)).length=vs.length:=by
   simp only [aq,an,cg]; omega
  refine ⟨c',by rw [hx]; exact rs r1,r2.le,_,O.set k hk r2 (fun b hb=>by rw [hb]; exact hbk) (e':=es true R v E (vs.take (i.toNat * R.size+j)++us++vs.drop (i.toNat * R.size+j+us.length)) (xs.set i.toNat x')) r3 (fun b h=> .inl h),hp,?_,fun q y hy=>?_⟩
  ·rcases h.2.1 with ⟨_,rfl⟩ | ⟨g,cap,h2,h3,h4,h5⟩
   ·exfalso; simp at hi; omega
   ·exact .inr ⟨g,cap,by rw [aN]; exact h2,by rw [aN]; exact h3,h4,by rw [hlen]; exact h5⟩
  ·by_cases hq:q=i.toNat
   ·subst hq;rw [ai (by omega)] at hy;cases hy;have:((vs.take (i.toNat * R.size+j)++us++vs.drop (i.toNat * R.size+j+us.length)).drop (i.toNat * R.size)).take R.size=l':=by
     rw [←hn,←hm];rw [aS,eM (by rw [an]; omega),ca];have e1:i.toNat * R.size+j - i.toNat * R.size=j:=by omega
     rw [e1,cF,dj (by omega),aS,ca,bI,iw,iw];have h6:((vs.drop (i.toNat * R.size)).take j).length=j:=by rw [an,cg]; omega
     rw [h6,dd (by omega),dd (l:=us) (by omega)]
     congr 2
     rw [Nat.add_assoc]
     congr 1
     omega
    rw [this];exact R.mono r2.le hx'
   ·rw [ak (cM hq)] at hy;have hold:=h.2.2 q y hy;have hqm:=bD (s:=R.size) (List.getElem?_eq_some_iff.1 hy).1;have:((vs.take (i.toNat * R.size+j)++us++vs.drop (i.toNat * R.size+j+us.length)).drop (q * R.size)).take R.size=(vs.drop (q * R.size)).take R.size:=by
     rcases aw q i.toNat with hlt | hge
     ·have:=bD (s:=R.size) hlt;rw [aS,bC (by rw [an]; omega),ca,cF,dj (by omega)]
     ·have:=bD (s:=R.size) (show i.toNat < q by omega);have h7:(vs.take (i.toNat * R.size+j)++us).length=i.toNat * R.size+j+us.length:=by rw [aq,an]; omega
      rw [show q * R.size=(vs.take (i.toNat * R.size+j)++us).length+(q * R.size - (i.toNat * R.size+j+us.length)) by omega,←bI,dH,bI]
      congr 2
      omega
    rw [this];exact R.mono r2.le hold
 ·cases hset
theorem Own.stW {T E:TypeId} {v:Value} {vs:List Value} {xs xs':List α} {i:Int} {x':α} {us:List Value} {u:Value} (k:Nat) (O:Own c G F) (hx:execOp ρ o=(do Instr.storeAt T (.pointer (some ⟨sb v,i.toNat * R.size,none⟩)) u; pure Next.skip:Sem Next))
  (hk:F[k]? = some (es true R v E vs xs)) (h:OA R c v vs xs) (hset:cJ xs i x'=some xs') (hv:u.cells.toList=us) (hs:(P.info? T).map (·.size)=some us.length) (h1:cf us) (hl:us.length=R.size) (hx':R.cells c us x'):
  ∃c',(execOp ρ o).run P c.w= .ok .skip c'.w∧c.le c'∧∃vs',Own c' G (F.set k (es true R v E vs' xs'))∧OA R c' v vs' xs':=by
 have hi:0≤i∧i < xs.length:=by
  unfold cJ at hset;split at hset
  ·assumption
  ·cases hset
 have hc:=h.2.2 i.toNat xs[i.toNat] (ab (by omega));have hlen:=R.len hc;refine Own.stO (x:=xs[i.toNat]) (j:=0) (us:=us) (l':=us) k O (by rw [hx]; rfl) hk h hset rfl hv hs h1 ?_ ?_ hx'
 ·rw [cz,hl]; exact dr (ay _)
 ·rw [List.take_zero,dk,cz,List.drop_of_length_le (by rw [hlen,hl]; exact ay _),dl]
theorem Own.app {E t ty:TypeId} {v u:Value} {vs:List Value} {xs ys zs:List α} {z:Value} {by_:Nat} {m:Bool} (k:Nat) (O:Own c G F) (hk:F[k]? = some (es m R v E vs xs)) (h:OA R c v vs xs) (hS:Sl R c u ys) (happ:app xs ys=some zs)
  (hT:P.underlying t=some (.slice E)) (hi:(P.info? E).map (fun i=>(i.zero,i.size,i.bytes))=some (some z,R.size,by_)) (hz:z.cells.size=R.size) (hby:Nat.ble by_ 128=true)
  (hx:execOp ρ o=(do pure (Next.value (←Builtin.append_ #[t,t] ty #[v,u])):Sem Next)):
  ∃v' c',(execOp ρ o).run P c.w= .ok (.value v') c'.w∧c.le c'∧∃vs',Own c' G (F.set k (es m R v' E vs' zs))∧OA R c' v' vs' zs:=by
 obtain ⟨v',c',h1,h2,h3⟩:=fe (P:=P) (t:=t) (ty:=ty) k O hk h hS happ hT hi hz hby;exact ⟨v',c',rx hx h1,h2,h3⟩
theorem gl {i:Int} {x:α} {xs:List α} (h:rep i x=some xs):i≤far:=by
 unfold rep at h;split at h
 ·rename_i h'; exact h'.2
 ·cases h
def dX (R:Rp α) (c:Cx):List (List Value)→List α→Prop
 | [],[]=>True
 | l :: ls,x :: xs=>R.cells c l x∧dX R c ls xs
 | _,_=>False
theorem dX.len:∀{ls:List (List Value)} {xs:List α},dX R c ls xs→ls.flatten.length=xs.length * R.size
 | [],[],_=>by simp
 | l :: ls,x :: xs,h=>by
  simp only [eo,aq,eA,R.len h.1,dX.len h.2,bH,dE];omega
 | [],_ :: _,h=>h.elim
 | _ :: _,[],h=>h.elim
theorem dX.get:∀{ls:List (List Value)} {xs:List α},dX R c ls xs→AR R c ls.flatten xs
 | [],[],_=>fun i x h=>by simp at h
 | l :: ls,x :: xs,h=>fun i y hy=>by
  cases i with
  | zero=>
   simp only [gi,aF] at hy;subst hy;rw [gz,List.drop_zero,eo,←R.len h.1,List.take_left];exact h.1
  | succ i=>
   simp only [List.getElem?_cons_succ] at hy;rw [eo,bH,dE,Nat.add_comm (i * R.size),←R.len h.1,←bI,dH,R.len h.1];exact dX.get h.2 i y hy
 | [],_ :: _,h=>h.elim
 | _ :: _,[],h=>h.elim
theorem Own.newS (m:Bool) {E:TypeId} {vs:List Value} {xs:List α} {cap:Nat} (O:Own c G F) (hp:0 < R.size) (hA:AR R c vs xs) (hc:xs.length≤cap) (hm:cap≤maxLen) (hcs:cap * R.size≤vs.length)
  (hr:(execOp ρ o).run P c.w= .ok (.value (.slice (some ⟨c.w.heap.size,0,none⟩) xs.length cap)) (c.w.alloc (.cells vs.toArray E))):
  ∃v c',(execOp ρ o).run P c.w= .ok (.value v) c'.w∧c.le c'∧∃vs,Own c' G (es m R v E vs xs :: F)∧OA R c' v vs xs:=by
 obtain ⟨c',h1,h2,h3,_,h4⟩:=Cx.new c vs E (cond m 0 (xs.length * R.size));refine ⟨_,c',by rw [h1]; exact hr,h2.le,vs,O.cons h2 (fun _=>id) (fun b hb=>?_) (fun b hb=>?_),hp,.inr ⟨_,_,rfl,hc,hm,hcs⟩,hA.mono h2.le⟩
 ·simp only [es,Go.Lt.blk,aF] at hb; subst hb; exact ⟨h3,h4⟩
 ·simp only [es,Go.Lt.blk,aF] at hb; omega
theorem Own.sl (m:Bool) {E:TypeId} {ls:List (List Value)} {vs:List Value} {xs:List α} (O:Own c G F) (hp:0 < R.size) (hv:ls.flatten=vs) (hR:dX R c ls xs) (hm:Nat.ble xs.length 4294967296=true)
  (hr:(execOp ρ o).run P c.w= .ok (.value (.slice (some ⟨c.w.heap.size,0,none⟩) xs.length xs.length)) (c.w.alloc (.cells vs.toArray E))):
  ∃v c',(execOp ρ o).run P c.w= .ok (.value v) c'.w∧c.le c'∧∃vs,Own c' G (es m R v E vs xs :: F)∧OA R c' v vs xs:=by
 subst hv;have hm:=av hm;exact Own.newS m O hp hR.get (ay _) (by unfold maxLen; omega) (by rw [hR.len]; exact ay _) hr
theorem Own.mkS (m:Bool) {E t:TypeId} {z:Value} {lz:List Value} {x:α} {xs:List α} {by_:Nat} {kl kc:IntKind} {i j:Int} (O:Own c G F) (hp:0 < R.size) (hrep:rep i x=some xs) (hij:i≤j) (hj:j≤far) (hT:P.underlying t=some (.slice E))
  (hi:(P.info? E).map (fun i=>(i.zero,i.size,i.bytes))=some (some z,R.size,by_)) (hz:z.cells.toList=lz) (hzl:lz.length=R.size) (hzx:∀c,R.cells c lz x) (hby:Nat.ble by_ 128=true)
  (hx:execOp ρ o=(do pure (Next.value (←Instr.makeSlice t (.int kl i) (.int kc j))):Sem Next)):
  ∃v c',(execOp ρ o).run P c.w= .ok (.value v) c'.w∧c.le c'∧∃vs,Own c' G (es m R v E vs xs :: F)∧OA R c' v vs xs:=by
 have hby:=av hby;unfold rep at hrep;split at hrep
 ·rename_i h0
  cases hrep;obtain ⟨ti,hti,hzz⟩:=Option.map_eq_some_iff.1 hi;simp only [dP] at hzz;obtain ⟨hz1,hz2,hz3⟩:=hzz;unfold far at hj;have hb:(ti.bytes:Int) * j≤281474976710656:=by
   rw [hz3];have:(by_:Int) * j≤128 * 1099511627776:=Int.mul_le_mul (by omega) (by omega) (by omega) (by omega);omega
  have hr:=run_make (P:=P) c.w t E ti z hT hti hz1 kl kc i j h0.1 hij hb (by omega);have hlen:(List.replicate i.toNat x).length=i.toNat:=by simp
  have key:(madeCells z.cells (j.toNat * ti.size)).toList=(madeCells z.cells (j.toNat * ti.size)).toList:=rfl;have hget:∀q,q < j.toNat * R.size→(madeCells z.cells (j.toNat * ti.size)).toList[q]? = lz[q % R.size]? :=fun q hq=>by
   have hzs:z.cells.size=R.size:=by rw [←hzl,←hz]; simp
   have hq2:q % R.size < lz.length:=by rw [hzl]; exact Nat.mod_lt _ hp
   have hq3:q % z.cells.size < z.cells.size:=by rw [hzs]; exact Nat.mod_lt _ hp
   simp only [madeCells,Array.toList_map,Array.toList_range,cN,hz2,cv hq,cp];rw [←hz,←hzs,Array.getElem?_toList,Array.getElem?_eq_getElem hq3];simp [getElem!_pos,hq3]
  refine Own.newS (vs:=(madeCells z.cells (j.toNat * ti.size)).toList) (cap:=j.toNat) m O hp (fun q y hy=>?_) (by rw [hlen]; omega) (by unfold maxLen; omega) (by simp [size_madeCells,hz2]) ?_
  ·have hy2:=List.getElem?_eq_some_iff.1 hy;obtain ⟨hq,hyx⟩:=hy2;simp at hyx;subst hyx;have hqi:q < i.toNat:=by simpa using hq
   have hm:=bD (s:=R.size) (show q < j.toNat by omega);have:((madeCells z.cells (j.toNat * ti.size)).toList.drop (q * R.size)).take R.size=lz:=by
    apply cO;intro r;rw [ba];split
    ·rename_i hr
     rw [cH,hget _ (by omega),Nat.mul_comm q,Nat.mul_add_mod,Nat.mod_eq_of_lt hr]
    ·rename_i hr
     rw [aQ (by omega)]
   rw [this];exact hzx c
  ·rw [hlen];exact rx hx (by rw [hr])
 ·cases hrep
theorem Pt.cs {g:Nat} {v:Value} {p:Option Nat} (h:Pt g c v p):(v= .pointer none∧p.isNone=true)∨∃b,v= .pointer (some ⟨b,0,none⟩)∧p.isNone=false:=by
 cases p with
 | none=>exact .inl ⟨h,rfl⟩
 | some p=>obtain ⟨b,h,_⟩:=h; exact .inr ⟨b,h,rfl⟩
theorem RE.cs {S T:TypeId} {v:Value} {e:Er} (h:RE S T c v e):(v= .nilIface∧e.isNil=true)∨(∃a,v= .iface S (.pointer (some a))∧e.isNil=false)∨∃b,v= .iface T (.pointer (some ⟨b,0,none⟩))∧e.isNil=false:=by
 cases e with
 | nil=>exact .inl ⟨h,rfl⟩
 | sent g=>obtain ⟨b,h,_⟩:=h; exact .inr (.inl ⟨b,h,rfl⟩)
 | fault i e=>obtain ⟨b,u,h,_⟩:=h; exact .inr (.inr ⟨b,h,rfl⟩)
def bT (G G':Gm):Prop:=∀g k,G g k≠ []→G' g k=G g k
theorem bT.refl (G:Gm):bT G G:=fun _ _ _=>rfl
theorem bT.trans {a b c:Gm} (h:bT a b) (k:bT b c):bT a c:=fun g i hi=>(k g i (by rw [h g i hi]; exact hi)).trans (h g i hi)
theorem bT.nil {G G':Gm} {g k:Nat} (h:bT G G') (hE:G' g k= []):G g k= []:=by
 by_cases hn:G g k= []
 ·exact hn
 ·rw [h g k hn] at hE; exact hE
def fo (n:Nat) (ks:List Nat):Bool:=ks.all (fun i=>Nat.blt i n) && decide ks.Nodup
theorem Own.selD (n:Nat) (ks:List Nat) (O:Own c G F) (hks:fo n ks=true) (hn:Nat.ble n F.length=true):Own c G (ks.map (fun i=>F.getD i dp)++F.drop n):=by
 simp only [fo,ax,eB,be] at hks;have hn:=av hn;refine Own.sel (L:=F.take n) ks (by rw [List.take_append_drop]; exact O) hks.2 ?_;rw [List.map_map];refine List.map_congr_left fun i hi=>?_;have h1:i < n:=by have:=hks.1 i hi; simpa [Nat.blt_eq] using this
 simp only [Function.comp,ba,ao h1,fE];rw [ab (by omega)];rfl
end
section
variable {P:Program} {c:Cx} {n:Fr} {e:Nat→Value} {fn:Func} {R:Ending→World→Prop}
theorem gU {t b:Nat} {T U:TypeId} {vs:List Value} (hr:fn.results= #[.cell t T]) (hv:ev n e (.tmp t)= .pointer (some ⟨b,0,none⟩))
  (hT:(P.underlying T).map (fun d=>match d with | .struct _ | .array _ _=>true | _=>false)=some true) (hs:(P.info? T).map (·.size)=some vs.length) (h:c.w.heap[b]? = some (.cells vs.toArray U (0,0)))
  (hR:R (.returned (.agg vs.toArray)) c.w):cu P fn n R .ret e c.w:=by
 have hl:=cI (P:=P) (w:=c.w) (b:=b) (o:=0) (l:=vs) hT hs (fun j u hu=>by simp [World.cell?,h,hu]);refine ⟨.agg vs.toArray,?_,hR⟩;have ht:=bU n e t;rw [hv,bB] at ht;simp [results,hr,ht,asAddr,hl]
theorem ge {t u b:Nat} {T U:TypeId} {vs:List Value} {v:Value} (hr:fn.results= #[.cell t T,.tmp u]) (hv:ev n e (.tmp t)= .pointer (some ⟨b,0,none⟩)) (hu:ev n e (.tmp u)=v)
  (hT:(P.underlying T).map (fun d=>match d with | .struct _ | .array _ _=>true | _=>false)=some true) (hs:(P.info? T).map (·.size)=some vs.length) (h:c.w.heap[b]? = some (.cells vs.toArray U (0,0)))
  (hR:R (.returned (.tuple #[.agg vs.toArray,v])) c.w):cu P fn n R .ret e c.w:=by
 have hl:=cI (P:=P) (w:=c.w) (b:=b) (o:=0) (l:=vs) hT hs (fun j u hu=>by simp [World.cell?,h,hu]);refine ⟨.tuple #[.agg vs.toArray,v],?_,hR⟩;have ht:=bU n e t;have hu':=bU n e u;rw [hv,bB] at ht;rw [hu,bB] at hu';simp [results,hr,ht,hu',asAddr,hl,Result.andThen]
end
section
variable {P:Program} {ρ:Operand→Value} {o:Oper} {T U:TypeId} {xs ys:Array Value} {fs:Array Field} {r:Bool}
end
end Go.Lt
namespace Go.Lt
open Go.ChangeShapes Go.WideShapes Go.RowKit
def C0 (w:World):Cx:=⟨w,fun _ _=>False,fun _ _=>none⟩
theorem gZ (w:World):Own (C0 w) (fun _ _=>[]) []:=
 ⟨⟨fun i e h=>by cases i <;> simp [at_] at h,fun i j e e' h=>by cases i <;> simp [at_] at h⟩,fun _ _ _=>rfl⟩
theorem im0 {w:World} {b o:Nat} {v:Value} (h:w.cell? ⟨b,o,none⟩=some v):Im (C0 w) b o v:=by
 refine ⟨?_,id,h⟩;unfold World.cell? at h;split at h
 ·rename_i hh; exact (Array.getElem?_eq_some_iff.1 hh).1
 ·cases h
def Rd (P:Program) (t:TypeId) {α:Type} (R:Rp α) (K:α→Prop):Prop:=
 P.cellsOf t=R.size∧∀{H:Type} {enc:TypeId×Value→H} {w:World} {sp:Nat→Bool} {held:Bool} {fuel:Nat} {cs:List Value} {x:DataW H×List MemPlace},
  DataW.trod enc P w 0 sp held fuel t cs=some x→∃y,R.cells (C0 w) cs y∧K y
theorem Rd.int {P:Program} {t:TypeId} {k:IntKind} (ht:P.underlying t=some (.int k)) (hc:P.cellsOf t=1):Rd P t (RI k) (fun n=>(Lit.int k n).wf=true):=
 ⟨hc,fun h=>by obtain ⟨n,rfl,_,hw⟩:=DataW.trod_int ht h; exact ⟨n,rfl,hw⟩⟩
theorem gK {α:Type} {Q:Nat→α→Prop}:∀n,(∀i,i < n→∃x,Q i x)→∃xs:List α,xs.length=n∧∀i x,xs[i]? = some x→Q i x
 | 0,_=>⟨[],rfl,fun i x h=>by simp at h⟩
 | n+1,h=>by
  obtain ⟨xs,hl,hx⟩:=gK n fun i hi=>h i (Nat.lt_succ_of_lt hi);obtain ⟨y,hy⟩:=h n (Nat.lt_succ_self n);refine ⟨xs++ [y],by simp [hl],fun i x hi=>?_⟩;rw [List.getElem?_append] at hi;split at hi
  ·exact hx i x hi
  ·rename_i hn
   have h1:=(List.getElem?_eq_some_iff.1 hi).1;simp only [eA,fg] at h1;obtain rfl:i=n:=by omega
   rw [hl,el] at hi;cases hi;exact hy
theorem eh {w:World} {a:Addr} {n:Nat} {cs:List Value} (h:w.cells? 0 a n=some cs):cs.length=n∧∀j u,cs[j]? = some u→w.cell? (a.add j)=some u:=by
 unfold World.cells? at h;rw [ao (bf _)] at h;have hl:cs.length=n:=by simpa using mapM_some_length h
 refine ⟨hl,fun j u hu=>?_⟩;have hjn:j < n:=by have:=(List.getElem?_eq_some_iff.1 hu).1; omega
 have hj:=mapM_some_get h j j (cv hjn);rw [hu] at hj;exact hj
theorem Rd.slice {P:Program} {t e:TypeId} {α:Type} {R:Rp α} {K:α→Prop} (ht:P.underlying t=some (.slice e)) (hc:P.cellsOf t=1) (h0:0 < R.size) (h:Rd P e R K):Rd P t (RL R) (fun xs=>xs.length≤maxLen∧∀x∈xs,K x):=by
 refine ⟨hc,fun {H enc w sp held fuel cs x} hd=>?_⟩;rcases DataW.trod_slice ht hd with ⟨rfl,_⟩ | ⟨a,len,cap,elems,rest,n,_,rfl,_,_,hl,hm,hlen,hel,_,_⟩
 ·exact ⟨[],⟨_,rfl,Sl.nl R _⟩,bf _,fun x hx=>by cases hx⟩
 ·obtain ⟨b,o,s⟩:=a;have key:∀i,i < len→∃x,K x∧∃b' off l,(some ⟨b,o,s⟩:Option Addr)=some ⟨b',off,none⟩∧R.cells (C0 w) l x∧∀j u,l[j]? = some u→Im (C0 w) b' (off+i * R.size+j) u:=by
   intro i hi;have hs:s=none:=by
    have hE:=hel 0 (by omega);rw [ab (show 0 < elems.length by omega),gg] at hE;obtain ⟨cs,hcs,_⟩:=hE;obtain ⟨c1,c2⟩:=eh hcs;have hp:0 < cs.length:=by rw [c1,h.1]; exact h0
    have:=World.cell?_spot (c2 0 _ (ab hp));simpa [Addr.add] using this
   subst hs;have hE:=hel i hi;rw [ab (show i < elems.length by omega),gg] at hE;obtain ⟨cs,hcs,hr⟩:=hE;obtain ⟨c1,c2⟩:=eh hcs;obtain ⟨x,hx,hk⟩:=h.2 hr;refine ⟨x,hk,b,o,cs,rfl,hx,fun j u hu=>im0 ?_⟩;have:=c2 j u hu;rw [gj,gj,h.1] at this;exact this
  obtain ⟨xs,hxl,hxs⟩:=gK len key;subst hxl;refine ⟨xs,⟨_,rfl,some ⟨b,o,s⟩,cap,rfl,hl,hm,fun i x hx=>(hxs i x hx).2⟩,em hl hm,fun x hx=>?_⟩;obtain ⟨i,hi⟩:=List.mem_iff_getElem?.1 hx;exact (hxs i x hi).1
theorem Rd.field {P:Program} {H:Type} {enc:TypeId×Value→H} {w:World} {sp:Nat→Bool} {held:Bool} {n:Nat} {cs:List Value} {fs:Array Field} {xs:List (DataW H×List MemPlace)}
  (hf:∀(i:Nat) (f:Field),fs[i]? = some f→DataW.trod enc P w 0 sp held n f.type ((cs.drop f.offset).take (P.cellsOf f.type))=xs[i]?) (hx:xs.length=fs.size)
  (i:Nat) {f:Field} (hi:fs[i]? = some f) {α:Type} {R:Rp α} {K:α→Prop} (h:Rd P f.type R K):∃y,R.cells (C0 w) ((cs.drop f.offset).take R.size) y∧K y:=by
 have hlt:=(Array.getElem?_eq_some_iff.1 hi).1;have:=hf i f hi;rw [ab (show i < xs.length by omega),h.1] at this;exact h.2 this
section
variable {P:Program} {H:Type} {enc:TypeId×Value→H} {w:World} {sp:Nat→Bool} {held:Bool} {t:TypeId} {v:Value} {d:DataW H} {p:List MemPlace}
theorem fd {e:TypeId} {α:Type} {R:Rp α} {K:List α→Prop} (ht:P.underlying t=some (.slice e)) (h:Rd P t (RL R) K) (hok:Value.okWide P w .any 0 t v) (hd:DataW.Trod enc P w 0 sp held t v d p):
  ∃xs,Sl R (C0 w) v xs∧K xs:=by
 obtain ⟨fuel,hd⟩:=hd;obtain ⟨xs,⟨u,hu,hs⟩,hk⟩:=h.2 hd;have:v.cells= #[v]:=by
  unfold Value.okWide at hok;simp only [ht] at hok;unfold Cell.okWide at hok
  cases v <;> simp [ht,Cell.ok] at hok⊢
  all_goals rfl
 rw [this] at hu;cases hu;exact ⟨xs,hs,hk⟩
end
theorem cT {H:Type} {enc:TypeId×Value→H} {P:Program} (hl:laidOutB P=true) {w w':World} (h:∀k,k < w.heap.size→w'.heap[k]? = w.heap[k]?) {sp:Nat→Bool}:
  ∀{ts:List TypeId} {vs:List Value} {ds:List (DataW H)} {ps:List MemPlace},(ts.all fun t=>P.readableRec t && decide (t < P.types.size))=true→(∀x∈ps,x.block < w.heap.size)→(∀x∈ps,sp x.block=true)→
  DataW.TrodAll enc P w 0 (fun _=>true) true ts vs ds ps→DataW.TrodAll enc P w' 0 sp true ts vs ds ps
 | [],[],[],_,_,_,_,hA=>hA
 | [],_ :: _,_,_,_,_,_,hA=>hA.elim
 | [],[],_ :: _,_,_,_,_,hA=>hA.elim
 | _ :: _,[],_,_,_,_,_,hA=>hA.elim
 | _ :: _,_ :: _,[],_,_,_,_,hA=>hA.elim
 | t :: ts,v :: vs,d :: ds,ps,hr,hlt,hsp,hA=>by
  obtain ⟨p,q,h1,h2,rfl⟩:=hA;simp only [List.all_cons,ax,be] at hr;refine ⟨p,q,WideElems.Trod_stays hl hr.1.1 hr.1.2 h1 (fun x hx=>?_) (fun x hx=>hsp x (aJ _ hx)),cT hl h hr.2 (fun x hx=>hlt x (bb _ hx)) (fun x hx=>hsp x (bb _ hx)) h2,rfl⟩;have hb:=hlt x (aJ _ hx)
  cases x with
  | cell b o=>exact dD (w:=w) (h b hb)
  | map b=>exact h b hb
theorem e8 {H:Type} {enc:TypeId×Value→H} {P:Program} {f:Func} {s:ChangeSpec} {apart fresh handsOn again:Bool} {w w':World} {args:Array Value} {v:Value} {ds gs:List (DataW H)} {ps before:List MemPlace}
  (hW:DataW.Whole enc P f.params.toList s.vars apart w args.toList ds gs before) (he:before=ps++ [])
  (hr:∀(b:Nat) (sp:Nat→Bool) (hd:Bool),DataW.TrodAll enc P w' b sp hd f.resultTypes.toList (v.resultList f.resultTypes.size) (s.fn H (ds++gs)).results [])
  (ha:∀sp:Nat→Bool,(∀x∈ps,sp x.block=true)→DataW.TrodAll enc P w' 0 sp true f.params.toList args.toList (s.fn H (ds++gs)).args ps)
  (hv:∀sp:Nat→Bool,DataW.TrodVars enc P w' sp s.vars (s.fn H (ds++gs)).vars [])
  (hg:Gr w w') (ho:∀(j:Nat) (t:TypeId) (r:Value),f.resultTypes[j]? = some t→(v.resultList f.resultTypes.size)[j]? = some r→Value.okWide P w' .any 0 t r):s.post enc P f apart fresh handsOn again w args v w':=by
 rw [dl] at he;subst he;have hlt:∀x∈before,x.block < w.heap.size:=fun x hx=>hW.lt x hx;refine ⟨ds,gs,before,[],before,[],hW,hr _ _ _,ha _ (fun x hx=>fB (hlt x hx)),hv _,ia (fun x hx=>⟨hx,.inr (.inl hx)⟩) (hg.frame (· ∈before)),fun _=>?_⟩;obtain ⟨_,_,_,_,_,hz,hn⟩:=hW;refine ⟨ho,_,_,([]++before)++ [],⟨[]++before,[],trodAll_append (ha _ fun _ _=>rfl) (hr _ _ _),hv _,rfl,fun b off hb=>?_,fun e=>?_⟩,fun x hx _=>by simpa using hx⟩
 ·have hb':MemPlace.cell b off∈before:=by simpa using hb
  have:=hlt _ hb';rw [hg.2.1 ⟨b,off,none⟩ this];exact hz b off (by simpa using hb')
 ·simpa using hn e
theorem gM {P:Program} {laid:List (String×DataW Unit)} {w:World} (h:(laid.filter fun x=>x.2.handleName?.isSome)= []):laidMetH P laid w=laidMet P laid w:=by
 unfold laidMetH;rw [h]
theorem dM {P:Program} {W:World} {ti tp te ts:TypeId} {ms:Array (String×TypeId)} {f:Field} (hi:P.underlying ti=some (.interface ms)) (hrow:∀u,P.typeName? 3 u=some "*errors.errorString"→u=tp)
  (hp:P.underlying tp=some (.pointer te)) (he:P.underlying te=some (.struct #[f])) (hft:f.type=ts) (hfo:f.offset=0) (hs:P.underlying ts=some .string) (hc:P.cellsOf te=1) (hcs:P.cellsOf ts=1):
  ∀{laid:List (String×DataW Unit)} {ps:List MemPlace},DataW.LaidVars P W laid ps→(∀b off,MemPlace.cell b off∈ps→(∃c t,W.heap[b]? = some (.cells c t (0,0)))∧∀u v,W.cell? ⟨b,off,none⟩=some (.iface u v)→Value.okWide P W .any 0 u v)→
  ∀n text g,(n,DataW.iface "*errors.errorString" (.ptr (.agg [.lit (.string text)])))∈laid→P.globalNamed n=some g→(P.globals[g]?).map (·.type)=some ti→∃a s,W.cell? ⟨g,0,none⟩=some (.iface tp (.pointer (some a)))∧W.cell? a=some (.string s)∧s.data.toList=text∧∃c t,W.heap[a.block]? = some (.cells c t (0,0))
 | [],_,_,_,_,_,_,hm,_,_=>by cases hm
 | (n',d) :: r,ps,⟨g',t,cs,fuel,p,q,hg',ht',hv,hd,hr,e⟩,hrows,n,text,g,hm,hg,ht=>by
  subst e;rcases List.mem_cons.1 hm with hh | hm
  ·cases hh;obtain rfl:=ag (hg.symm.trans hg');obtain rfl:=ag (ht.symm.trans ht');obtain ⟨l⟩:=cs;have ok:∀u v,l= [.iface u v]→Value.okWide P W .any 0 u v:=fun u v e=>by
    subst e;exact (hrows g 0 (by simp [MemPlace.row])).2 u v (by simpa using iB hg hv 0)
   obtain ⟨a,s,rfl,h1,h2,_,rfl⟩:=errorString_of_trod hi hrow hp he hft hfo hs hc hcs hd ok;exact ⟨a,s,by simpa using iB hg hv 0,h1,h2,(hrows a.block a.off (by simp [MemPlace.row])).1⟩
  ·exact dM hi hrow hp he hft hfo hs hc hcs hr (fun b off hb=>hrows b off (bb _ hb)) n text g hm hg ht
theorem gp {P:Program} {f:FuncId} {fn:Func} {s:ChangeSpec} {c:OpenClaim} (l1:laidOutB P=true) (l2:mapsRowed P=true) (l3:(P.stops== [])=true) (l4:(P.stopKnobs== [])=true) (l5:P.stopsHeard=true) (l6:P.mayEnter=true)
  (l7:(c.lifted==P.liftsFinal)=true) (l8:(P.make==some c.make)=true) (l9:(c.plainKeys==P.plainKeys)=true)
  (a0:c.wf (OpenSpec.ofChange s)=true) (a1:(fn.params.all (P.readableRec ·) && namedTie P c.named s.vars && (c.stops== []) && (c.knobs== []))=true)
  (a2:(c.inPlace==P.inPlace f)=true) (a3:(c.unfollowed==P.unfollowed f)=true) (a4:(c.recurses==P.recurses f)=true) (a5:(c.named==P.varsNamed f)=true)
  (a6:((c.maps==(fn.params.toList++s.plain.varTypes P).any (P.mapsRec ·)) && (c.ifaces==(fn.params.toList++s.plain.varTypes P).any (P.ifacesRec ·)) && (c.mapsOut==P.mapsAmong fn.resultTypes.toList) &&
   (c.loops==(fn.params.toList++s.plain.varTypes P).any (P.loopsFrom ·)) && (c.wideKeys==(fn.params.toList++s.plain.varTypes P++fn.resultTypes.toList).any (P.wideKeysFrom ·)) &&
   s.vars.all (P.varReadable ·) && fn.resultTypes.all (fun t=>P.readableRec t && decide (t < P.types.size)) && (c.ifacesOut==fn.resultTypes.toList.any (P.ifacesRec ·)) && (c.loopsOut==fn.resultTypes.toList.any (P.loopsFrom ·)))=true)
  (a7:(c.shortTexts.isNone && (c.kinds==(if c.domain.isEmpty then [] else fn.params.toList.map fun t=>match P.underlying t with | some (.int k)=>some k | _=>none)) && (c.pinned==c.pinnedBy) &&
   (c.veiled==(fn.params.toList++s.plain.varTypes P++fn.resultTypes.toList).any (P.veiledRec ·)) && c.veiledFits P fn.params.toList (fn.params.toList++s.plain.varTypes P++fn.resultTypes.toList))=true):joinedFacts P f fn s c=true:=by
 simp only [ax] at a1 a6 a7;obtain ⟨⟨⟨b1,b2⟩,b3⟩,b4⟩:=a1;obtain ⟨⟨⟨⟨⟨⟨⟨⟨c1,c2⟩,c3⟩,c4⟩,c5⟩,c6⟩,c7⟩,c8⟩,c9⟩:=a6;obtain ⟨⟨⟨⟨d1,d2⟩,d3⟩,d4⟩,d5⟩:=a7;unfold joinedFacts;simp only [ax];exact ⟨⟨⟨⟨⟨⟨⟨⟨⟨⟨⟨⟨⟨⟨⟨⟨⟨⟨⟨⟨⟨⟨⟨⟨⟨⟨⟨⟨⟨⟨⟨a0,l1⟩,l2⟩,b1⟩,b2⟩,b3⟩,l3⟩,b4⟩,l4⟩,a2⟩,a3⟩,a4⟩,a5⟩,c1⟩,c2⟩,c3⟩,c4⟩,c5⟩,c6⟩,c7⟩,c8⟩,c9⟩,l9⟩,d1⟩,l5⟩,l6⟩,l7⟩,l8⟩,d2⟩,d3⟩,d4⟩,d5⟩
end Go.Lt
namespace Go.Lt
abbrev T16:=Int×Int×Int×Int×Int×Int×Int×Int×Int×Int×Int×Int×Int×Int×Int×Int
def l16 (l:List Int):T16:=(l.getD 0 0,l.getD 1 0,l.getD 2 0,l.getD 3 0,l.getD 4 0,l.getD 5 0,l.getD 6 0,l.getD 7 0,l.getD 8 0,l.getD 9 0,l.getD 10 0,l.getD 11 0,l.getD 12 0,l.getD 13 0,l.getD 14 0,l.getD 15 0)
section
variable {P:Program} {c c':Cx} {G:Gm} {F:List En} {ρ:Operand→Value} {o:Oper}
end
end Go.Lt
namespace Go.Lt
theorem pt {c c':Cx} (k:c.le c':=by repeat (first | assumption | exact Cx.le.refl _ | refine Cx.le.trans ?_ (by assumption))):c.le c':=k
section
variable {c c':Cx} {α:Type} {R:Rp α}
theorem Sl.m {v:Value} {xs:List α} (h:Sl R c v xs) (k:c.le c':=by repeat (first | assumption | refine Cx.le.trans ?_ (by assumption))):Sl R c' v xs:=h.mono k
theorem OA.m {v:Value} {vs:List Value} {xs:List α} (h:OA R c v vs xs) (k:c.le c':=by repeat (first | assumption | refine Cx.le.trans ?_ (by assumption))):OA R c' v vs xs:=h.mono k
theorem Pt.m {g:Nat} {v:Value} {p:Option Nat} (h:Pt g c v p) (k:c.le c':=by repeat (first | assumption | refine Cx.le.trans ?_ (by assumption))):Pt g c' v p:=h.mono k
theorem RE.m {S T:TypeId} {v:Value} {e:Er} (h:RE S T c v e) (k:c.le c':=by repeat (first | assumption | refine Cx.le.trans ?_ (by assumption))):RE S T c' v e:=h.mono k
theorem mm {b o:Nat} {L:List Value} (h:∀j u,L[j]? = some u→Im c b (o+j) u) (k:c.le c':=by repeat (first | assumption | refine Cx.le.trans ?_ (by assumption))):∀j u,L[j]? = some u→Im c' b (o+j) u:=fun j u hu=>(h j u hu).mono k
theorem mi {b o:Nat} {u:Value} (h:Im c b o u) (k:c.le c':=by repeat (first | assumption | refine Cx.le.trans ?_ (by assumption))):Im c' b o u:=h.mono k
theorem tm {g k b:Nat} (h:c.t g k=some b) (l:c.le c':=by repeat (first | assumption | refine Cx.le.trans ?_ (by assumption))):c'.t g k=some b:=l.t _ _ _ h
end
theorem ef {e:Nat→Value}:∀{l:List (Nat×Value)},l.map (fun x=>e x.1)=l.map (fun x=>x.2)→eg e l
 | [],_=>trivial
 | (t,v) :: l,h=>by
  simp only [List.map_cons,List.cons.injEq] at h;exact ⟨h.1,ef h.2⟩
theorem us {e:Nat→Value} {l:List (Nat×Value)} (h:l.map (fun x=>e x.1)=l.map (fun x=>x.2):=by kernel_rfl):e=ups e l:=dY (ef h)
abbrev Jn (c0:Cx) (q:Cx→List (Nat×Value)→Prop) (e:Nat→Value) (w:World):Prop:=∃(c:Cx) (g:Nat→Value) (l:List (Nat×Value)),w=c.w∧c0.le c∧e=ups g l∧q c l
theorem jn {c0:Cx} {q:Cx→List (Nat×Value)→Prop} {e:Nat→Value} {l:List (Nat×Value)} (c:Cx) (h:q c l) (k:c0.le c:=by repeat (first | assumption | exact Cx.le.refl _ | refine Cx.le.trans ?_ (by assumption))) (u:l.map (fun x=>e x.1)=l.map (fun x=>x.2):=by kernel_rfl):Jn c0 q e c.w:=⟨c,e,l,rfl,k,us u,h⟩
theorem qq {c0:Cx} {X:Cx→Value→Prop} {v:Value} (c:Cx) (h:X c v) (k:c0.le c:=by repeat (first | assumption | exact Cx.le.refl _ | refine Cx.le.trans ?_ (by assumption))):bu c0 X (.returned v) c.w:=⟨v,c,rfl,rfl,k,h⟩
theorem bn {α β:Type} {x:Option α} {f:α→Option β} {r:β} {C:Prop} (H:x.bind f=some r) (k:∀a,x=some a→f a=some r→C):C:=by
 obtain ⟨a,h1,h2⟩:=bs H;exact k a h1 h2
theorem si {α:Type} {a b:α} (h:some a=some b):a=b:=ag h
theorem bo (b:Bool):b=true∨b=false:=Bool.eq_false_or_eq_true b
theorem Own.sD {c:Cx} {G:Gm} {F:List En} (O:Own c G F) (n:Nat) (ks:List Nat) (h1:fo n ks=true:=by kernel_rfl) (h2:Nat.ble n F.length=true:=by kernel_rfl):Own c G (ks.map (fun i=>F.getD i dp)++F.drop n):=O.selD n ks h1 h2
section
variable {P:Program} {c c':Cx} {G:Gm} {F:List En} {α:Type} {R:Rp α} {ρ:Operand→Value} {o:Oper} {fn:Func}
variable {n:Fr} {ops:Array Oper} {Q:Exit→(Nat→Value)→World→Prop} {rest:List Oper} {e:Nat→Value} {D:List Nat} {K:Cx→Prop} {l:List Oper} {fuel:Nat} {li:List Bool} {a b:Code} {w:World}
theorem vx {s:Sem Value} {v:Value} (h0:s.run P w= .ok v w) (h:WL P ops n Q rest (upO e o.dst v) w) (hg:o.guard=none:=by exact rfl) (hx:execOp (ev n e) o=(do pure (Next.value (←s)):Sem Next):=by kernel_rfl):WL P ops n Q (o :: rest) e w:=WL.val0 hg (rx hx h0) h
theorem vr (v:Value) (hr:(execOp (ev n e) o).run P w= .ok (.value v) w) (h:WL P ops n Q rest (upO e o.dst v) w) (hg:o.guard=none:=by exact rfl):WL P ops n Q (o :: rest) e w:=WL.val0 hg hr h
theorem cl {f:FuncId} {args:Array Value} {X:Cx→Value→Prop} (hc:Calls P f args c.w (bu c X)) (h:∀v c',c.le c'→X c' v→WL P ops n Q rest (upO e o.dst v) c'.w) (hg:o.guard=none:=by exact rfl) (hr:(execOp (ev n e) o).run P c.w= .ok (.enter f args) c.w:=by kernel_rfl):WL P ops n Q (o :: rest) e c.w:=WL.callP hg hr hc h
theorem me {X:Value→Cx→Prop} (hr:∃v c',(execOp (ev n e) o).run P c.w= .ok (.value v) c'.w∧c.le c'∧X v c') (h:∀v c',c.le c'→X v c'→WL P ops n Q rest (upO e o.dst v) c'.w) (hg:o.guard=none:=by exact rfl):WL P ops n Q (o :: rest) e c.w:=WL.mem hg hr h
theorem md {X:Cx→Prop} (hr:∃c',(execOp (ev n e) o).run P c.w= .ok .skip c'.w∧c.le c'∧X c') (h:∀c',c.le c'→X c'→WL P ops n Q rest (upO e o.dst undef) c'.w) (hg:o.guard=none:=by exact rfl):WL P ops n Q (o :: rest) e c.w:=WL.memD hg hr h
theorem cn {α:Type} {t:Bool} {x y:Option α} {r:α} {cd:Operand} (H:(if t=true then x else y)=some r) (h1:t=true→x=some r→W P n a Q e w) (h2:t=false→y=some r→W P n b Q e w) (hc:ev n e cd= .bool t:=by kernel_rfl):W P n (.cond cd a b) Q e w:=
 W.cond hc (fun h=>h1 h (it h H)) (fun h=>h2 h (ie h H))
theorem lp {σ τ:Type} {step:σ→Option (σ ⊕ τ)} {fuel:Nat} {s:σ} {t:τ} (H:bN fuel step s=some t) (F:σ→(Nat→Value)→World→Prop) (Out:τ→Exit→(Nat→Value)→World→Prop)
  (hb:∀s x e w,step s=some x→F s e w→W P n a (lpQ F Out x) e w) (h0:F s e w) (hQ:∀x e w,Out t x e w→Q x e w):W P n (.loop a) Q e w:=W.loop F Out hb H h0 hQ
theorem en {P:Program} {f:FuncId} {fn:Func} {code:Code} {n:Nat} {l:List Value} {w:World} {R:Ending→World→Prop} (hf:P.funcs[f]? = some fn) (hb:fn.body=some code) (hn:fn.ntmps=n) (h:W P ⟨n,[],none⟩ code (cu P fn ⟨n,[],none⟩ R) (ar l) w) (hl:Nat.ble l.length n=true:=by rfl):Calls P f l.toArray w R:=enter hf hb hn hl h
theorem tx (i:Nat) {s:Sem Value} {v:Value} (h0:∀c',c.le c'→s.run P c'.w= .ok v c'.w) (h:AC D K P l n Q fuel (li.set i true) (upO e o.dst v) c) (hi:l.toArray[i]? = some o:=by exact rfl) (ht:tk l n li i=true:=by kernel_rfl) (hw:aU l.toArray n e o=true:=by kernel_rfl)
  (hx:execOp (ev n e) o=(do pure (Next.value (←s)):Sem Next):=by kernel_rfl):AC D K P l n Q (fuel+1) li e c:=AC.take i v hi ht hw (fun c' k=>rx hx (h0 c' k)) h
theorem tkx (i:Nat) {s:Sem Value} {v:Value} (p:K c) (h0:∀c',c.le c'→K c'→s.run P c'.w= .ok v c'.w) (h:AC D K P l n Q fuel (li.set i true) (upO e o.dst v) c) (hi:l.toArray[i]? = some o:=by exact rfl) (ht:tk l n li i=true:=by kernel_rfl) (hB:okB l.toArray li i D=true:=by kernel_rfl)
  (hw:aU l.toArray n e o=true:=by kernel_rfl) (hx:execOp (ev n e) o=(do pure (Next.value (←s)):Sem Next):=by kernel_rfl):AC D K P l n Q (fuel+1) li e c:=AC.takeK i v p hi ht hB hw (fun c' k q=>rx hx (h0 c' k q)) h
theorem tp (i:Nat) (h:AC D K P l n Q fuel (li.set i true) (upO e o.dst undef) c) (hi:l.toArray[i]? = some o:=by exact rfl) (ht:tk l n li i=true:=by kernel_rfl) (hw:aU l.toArray n e o=false:=by kernel_rfl):AC D K P l n Q (fuel+1) li e c:=AC.pass i hi ht hw h
theorem dn (h:Q .normal e c.w) (hr:Region.ready .any l.toArray li.toArray= []:=by kernel_rfl):AC D K P l n Q fuel li e c:=AC.done hr h
theorem o1 (i:Nat) (h:Go1 D K P l n Q fuel li e c i) (hr:Region.ready .any l.toArray li.toArray= [i]:=by kernel_rfl):AC D K P l n Q (fuel+1) li e c:=AC.one i hr h
theorem gm (i:Nat) {X:Value→Cx→Prop} (hr:∃v c',(execOp (ev n e) o).run P c.w= .ok (.value v) c'.w∧c.le c'∧X v c') (h:∀v c',c.le c'→X v c'→(D.contains i=true∨K c')∧AC D K P l n Q fuel (li.set i true) (upO e o.dst v) c')
  (hi:l.toArray[i]? = some o:=by exact rfl) (hsl:aM n l=true:=by kernel_rfl) (hw:aU l.toArray n e o=true:=by kernel_rfl):Go1 D K P l n Q fuel li e c i:=Go1.mem i hi hsl hw hr h
theorem gD (i:Nat) {X:Cx→Prop} (hr:∃c',(execOp (ev n e) o).run P c.w= .ok .skip c'.w∧c.le c'∧X c') (h:∀c',c.le c'→X c'→(D.contains i=true∨K c')∧AC D K P l n Q fuel (li.set i true) (upO e o.dst undef) c')
  (hi:l.toArray[i]? = some o:=by exact rfl) (hsl:aM n l=true:=by kernel_rfl) (hw:aU l.toArray n e o=true:=by kernel_rfl):Go1 D K P l n Q fuel li e c i:=Go1.memD i hi hsl hw hr h
theorem gc (i:Nat) {f:FuncId} {args:Array Value} {X:Cx→Value→Prop} (hc:Calls P f args c.w (bu c X)) (h:∀v c',c.le c'→X c' v→(D.contains i=true∨K c')∧AC D K P l n Q fuel (li.set i true) (upO e o.dst v) c')
  (hi:l.toArray[i]? = some o:=by exact rfl) (hsl:aM n l=true:=by kernel_rfl) (hw:aU l.toArray n e o=true:=by kernel_rfl) (hr:(execOp (ev n e) o).run P c.w= .ok (.enter f args) c.w:=by kernel_rfl):Go1 D K P l n Q fuel li e c i:=Go1.callP i hi hsl hw hr hc h
theorem rD (D:List Nat) (K:Cx→Prop) {id:Nat} (O:Own c G F) (h:∀c',c.le c'→Own c' G F→AC D K P l n Q l.length (List.replicate l.length false) e c') (hm:P.follows .mixedOrders=true:=by kernel_rfl):W P n (.region id l.toArray true) Q e c.w:=W.regionD D K O hm h
theorem l1 {T:TypeId} {b o:Nat} {v:Value} {d:TypeDesc} (hT:P.underlying T=some d) (h:Im c b o v) (hd:(match d with | .struct _ | .array _ _=>false | _=>true)=true:=by rfl):(Instr.loadAt T (.pointer (some ⟨b,o,none⟩))).run P c.w= .ok v c.w:=eU hT hd h
theorem lN (T:TypeId) {b o:Nat} {l:List Value} (h:∀j u,l[j]? = some u→Im c b (o+j) u) (hT:(P.underlying T).map (fun d=>match d with | .struct _ | .array _ _=>true | _=>false)=some true:=by kernel_rfl) (hs:(P.info? T).map (·.size)=some l.length:=by kernel_rfl):
  (Instr.loadAt T (.pointer (some ⟨b,o,none⟩))).run P c.w= .ok (.agg l.toArray) c.w:=eT hT hs h
theorem le1 (j:Nat) {T:TypeId} {e:En} {b:Nat} {v:Value} {d:TypeDesc} (hT:P.underlying T=some d) (h:e.on c) (hd:(match d with | .struct _ | .array _ _=>false | _=>true)=true:=by rfl) (hb:blk e.v=some b:=by rfl) (hj:e.vs[j]? = some v:=by rfl):
  (Instr.loadAt T (.pointer (some ⟨b,j,none⟩))).run P c.w= .ok v c.w:=fV hT hd h hb hj
theorem leN (T j:Nat) (l:List Value) {e:En} {b:Nat} (h:e.on c) (hT:(P.underlying T).map (fun d=>match d with | .struct _ | .array _ _=>true | _=>false)=some true:=by kernel_rfl) (hs:(P.info? T).map (·.size)=some l.length:=by kernel_rfl) (hb:blk e.v=some b:=by rfl) (hl:(e.vs.drop j).take l.length=l:=by rfl):
  (Instr.loadAt T (.pointer (some ⟨b,j,none⟩))).run P c.w= .ok (.agg l.toArray) c.w:=fU hT hs h hb hl
theorem ix {v:Value} {xs:List α} {T E:TypeId} {i:Int} {x:α} (hT:P.underlying T=some (.slice E)) (h:Sl R c v xs) (hi:idx xs i=some x) (hE:(P.info? E).map (·.size)=some R.size:=by kernel_rfl):
  (Instr.indexAt T v (.int .i64 i)).run P w= .ok (.pointer (some ⟨sb v,so v+i.toNat * R.size,none⟩)) w:=eV hT hE h hi w
theorem ixO {v:Value} {vs:List Value} {xs:List α} {T E:TypeId} {i:Int} {x:α} (hT:P.underlying T=some (.slice E)) (h:OA R c v vs xs) (hi:idx xs i=some x) (hE:(P.info? E).map (·.size)=some R.size:=by kernel_rfl):
  (Instr.indexAt T v (.int .i64 i)).run P w= .ok (.pointer (some ⟨sb v,i.toNat * R.size,none⟩)) w:=er hT hE h hi w
theorem ln {v:Value} {xs:List α} {T E:TypeId} (ty:TypeId) (hT:P.underlying T=some (.slice E)) (h:Sl R c v xs):(Builtin.len_ #[T] ty #[v]).run P w= .ok (.int .i64 (xs.length:Int)) w:=fJ hT h w
theorem lnO {v:Value} {vs:List Value} {xs:List α} {T E:TypeId} (ty:TypeId) (hT:P.underlying T=some (.slice E)) (h:OA R c v vs xs):(Builtin.len_ #[T] ty #[v]).run P w= .ok (.int .i64 (xs.length:Int)) w:=fp hT h w
theorem bx (T:TypeId) (vs:List Value) (O:Own c G F) (hr:(execOp ρ o).run P c.w= .ok (.value (.pointer (some ⟨c.w.heap.size,0,none⟩))) (c.w.alloc (.cells vs.toArray T)):=by kernel_rfl):
  ∃v c',(execOp ρ o).run P c.w= .ok (.value v) c'.w∧c.le c'∧∃b,v= .pointer (some ⟨b,0,none⟩)∧Own c' G F∧∀j u,vs[j]? = some u→Im c' b (0+j) u:=Own.bx O hr
theorem al (T:TypeId) (vs:List Value) (O:Own c G F) (hr:(execOp ρ o).run P c.w= .ok (.value (.pointer (some ⟨c.w.heap.size,0,none⟩))) (c.w.alloc (.cells vs.toArray T)):=by kernel_rfl):
  ∃v c',(execOp ρ o).run P c.w= .ok (.value v) c'.w∧c.le c'∧∃b,v= .pointer (some ⟨b,0,none⟩)∧Own c' G (⟨.pointer (some ⟨b,0,none⟩),T,vs,0⟩ :: F):=Own.al O hr
theorem sA (T:TypeId) (us:List Value) {e:En} {b:Nat} (k:Nat) (O:Own c G F) (h1:cf us) (hx:execOp ρ o=(do Instr.storeAt T (.pointer (some ⟨b,0,none⟩)) (.agg us.toArray); pure Next.skip:Sem Next):=by kernel_rfl) (hk:F[k]? = some e:=by rfl) (hb:blk e.v=some b:=by rfl) (hlim:e.lim=0:=by rfl)
  (hs:(P.info? T).map (·.size)=some us.length:=by kernel_rfl) (hl:Nat.ble (0+us.length) e.vs.length=true:=by rfl) (hn:e.vs.take 0++us++e.vs.drop (0+us.length)=us:=by rfl):∃c',(execOp ρ o).run P c.w= .ok .skip c'.w∧c.le c'∧Own c' G (F.set k ⟨e.v,e.T,us,0⟩):=Own.st k O hx hk hb hlim rfl hs h1 hl hn
theorem gt {v:Value} (h:v.oneCell'=true):v.cells.toList= [v]:=by
 cases v <;> first | rfl | (simp [Value.oneCell'] at h)
theorem gC (T j:Nat) (v:Value) (nw:List Value) {e:En} {b g k:Nat} {E:List En} (r:Nat) (O:Own c G F) (hE:G g k=E) (h1:cf [v]) (hx:execOp ρ o=(do Instr.storeAt T (.pointer (some ⟨b,j,none⟩)) v; pure Next.skip:Sem Next):=by kernel_rfl) (hr:E[r]? = some e:=by rfl) (hb:blk e.v=some b:=by rfl) (hlim:e.lim=0:=by rfl)
  (hs:(P.info? T).map (·.size)=some 1:=by kernel_rfl) (hl:Nat.ble (j+1) e.vs.length=true:=by rfl) (hn:e.vs.take j++ [v]++e.vs.drop (j+1)=nw:=by rfl):∃c',(execOp ρ o).run P c.w= .ok .skip c'.w∧c.le c'∧Own c' (bM G g k (E.set r ⟨e.v,e.T,nw,0⟩)) F:=Own.stG r O hx hE hr hb hlim (gt h1.1) hs h1 hl hn
theorem sl (R:Rp α) (E:TypeId) (ls:List (List Value)) (xs:List α) (O:Own c G F) (hR:dX R c ls xs) (hp:0 < R.size:=by exact bJ _) (hm:Nat.ble xs.length 4294967296=true:=by kernel_rfl)
  (hr:(execOp ρ o).run P c.w= .ok (.value (.slice (some ⟨c.w.heap.size,0,none⟩) xs.length xs.length)) (c.w.alloc (.cells ls.flatten.toArray E)):=by kernel_rfl):
  ∃v c',(execOp ρ o).run P c.w= .ok (.value v) c'.w∧c.le c'∧∃vs,Own c' G (es true R v E vs xs :: F)∧OA R c' v vs xs:=Own.sl true O hp rfl hR hm hr
theorem ap (R:Rp α) (z:Value) (by_ ty:Nat) {E t:TypeId} {v u:Value} {vs:List Value} {xs ys zs:List α} {m:Bool} (k:Nat) (O:Own c G F) (h:OA R c v vs xs) (hS:Sl R c u ys) (happ:app xs ys=some zs) (hT:P.underlying t=some (.slice E)) (hk:F[k]? = some (es m R v E vs xs):=by rfl)
  (hi:(P.info? E).map (fun i=>(i.zero,i.size,i.bytes))=some (some z,R.size,by_):=by kernel_rfl) (hz:z.cells.size=R.size:=by rfl) (hby:Nat.ble by_ 128=true:=by kernel_rfl) (hx:execOp ρ o=(do pure (Next.value (←Builtin.append_ #[t,t] ty #[v,u])):Sem Next):=by kernel_rfl):
  ∃v' c',(execOp ρ o).run P c.w= .ok (.value v') c'.w∧c.le c'∧∃vs',Own c' G (F.set k (es m R v' E vs' zs))∧OA R c' v' vs' zs:=Own.app k O hk h hS happ hT hi hz hby hx
variable {RR:Ending→World→Prop}
theorem r0 (h:RR (.returned (.tuple #[])) w) (hr:fn.results= #[]:=by rfl):cu P fn n RR .ret e w:=gW hr h
theorem n0 (h:RR (.returned (.tuple #[])) w) (hr:fn.results= #[]:=by rfl):cu P fn n RR .normal e w:=hH hr h
theorem r1 {t:Nat} {v:Value} (h:RR (.returned v) w) (hr:fn.results= #[.tmp t]:=by rfl) (hv:ev n e (.tmp t)=v:=by kernel_rfl):cu P fn n RR .ret e w:=gk hr hv h
theorem r2 {t u:Nat} {v v':Value} (h:RR (.returned (.tuple #[v,v'])) w) (hr:fn.results= #[.tmp t,.tmp u]:=by rfl) (hv:ev n e (.tmp t)=v:=by kernel_rfl) (hu:ev n e (.tmp u)=v':=by kernel_rfl):cu P fn n RR .ret e w:=gV hr hv hu h
end
abbrev I (x:Int):Value:= .int .i64 x
abbrev J (x:Int):Value:= .int .i32 x
abbrev B (x:Bool):Value:= .bool x
abbrev Q (b:Nat):Value:= .pointer (some ⟨b,0,none⟩)
abbrev Qo (b o:Nat):Value:= .pointer (some ⟨b,o,none⟩)
abbrev iA (a b c:Int):Value:= .agg #[I a,I b,I c]
abbrev III (a b:Int):Value:= .agg #[I a,I b]
abbrev iz (a b c:Int):Value:= .agg #[J a,J b,J c]
abbrev JII (a b:Int):Value:= .agg #[J a,J b]
abbrev Y:Value:= .slice none 0 0
abbrev Eb (b:Nat) (T:TypeId) (l:List Value):En:=⟨.pointer (some ⟨b,0,none⟩),T,l,0⟩
end Go.Lt
namespace Go.Lt
abbrev T2:=Int×Int
def a2 (t:T2):List Int:=[t.1,t.2]
end Go.Lt
namespace Go.Proofs.YtmncdniojmigeaaDoor
open Go Go.Lt
set_option linter.unusedVariables false
structure aa where
 Kind:Int
 Text:List Int
def ac:Rp aa where
 size:=2
 cells:=fun c l x=>∃y1:Value,l= [.int .i64 x.Kind,y1]∧Sl (RI .i32) c y1 x.Text
 len:=by
  intro c l x h
  obtain ⟨_,rfl,h0⟩:=h
  rfl
 one:=by
  intro c l x h v hv
  obtain ⟨_,rfl,h0⟩:=h
  simp only [f9,ez,or_false] at hv
  rcases hv with rfl | rfl
  ·rfl
  ·exact h0.one
 mono:=by
  intro c c2 l x hc h
  obtain ⟨_,rfl,h0⟩:=h
  exact ⟨_,rfl,h0.lw hc⟩
structure az where
 cells:List aa
 wrap:Bool
def bT (G G':Gm):Prop:=∀g k,G g k≠ []→G' g k=G g k
theorem bT.refl (G:Gm):bT G G:=fun _ _ _=>rfl
theorem bT.trans {a b c:Gm} (h:bT a b) (k:bT b c):bT a c:=fun g i hi=>(k g i (by rw [h g i hi]; exact hi)).trans (h g i hi)
theorem bT.nil {G G':Gm} {g k:Nat} (h:bT G G') (hE:G' g k= []):G g k= []:=by
 by_cases hn:G g k= []
 ·exact hn
 ·rw [h g k hn] at hE; exact hE
structure Sto where
 row_Row:List az
def Sto.set_row_Row (s:Sto) (k:Nat) (x:az):Option Sto:=if k < s.row_Row.length then some { s with row_Row:=s.row_Row.set k x} else none
def Sto.add_row_Row (s:Sto) (x:az):Sto:={ s with row_Row:=s.row_Row++ [x]}
def bh (c:Cx) (t:Option Nat) (E:List En) (x:az):Prop:=∃(b:Nat) (y1:Value) (u1:List Value),t=some b∧E= [⟨.pointer (some ⟨b,0,none⟩),45,[y1,.bool x.wrap],0⟩,es true ac y1 27 u1 x.cells]∧OA ac c y1 u1 x.cells
theorem bh.lw {c c':Cx} (k:c.lw c') (b:Nat) (E:List En) (x:az):bh c (some b) E x→bh c' (some b) E x:=by
 rintro ⟨b,y1,u1,e1,e2,h0⟩;exact ⟨b,y1,u1,e1,e2,h0.lw k⟩
theorem bh.no {c:Cx} (E:List En) (x:az):¬bh c none E x:=by
 rintro ⟨b,y1,u1,e1,_⟩;cases e1
structure Rel (c:Cx) (s:Sto) (G:Gm):Prop where
 row_Row:Rl bh 0 c G s.row_Row
theorem Rel.lw {c c':Cx} {s:Sto} {G:Gm} (h:Rel c s G) (k:c.lw c'):Rel c' s G:=
 ⟨h.row_Row.mono (bh.lw k) bh.no k⟩
theorem Rel.mono {c c':Cx} {s:Sto} {G:Gm} (h:Rel c s G) (k:c.le c'):Rel c' s G:=h.lw k.lw
theorem Rel.m {c c':Cx} {s:Sto} {G:Gm} (h:Rel c s G) (k:c.le c':=by repeat (first | assumption | refine Cx.le.trans ?_ (by assumption))):Rel c' s G:=h.mono k
theorem Rel.open_row_Row {c:Cx} {s:Sto} {G:Gm} {k b:Nat} {x:az} (R:Rel c s G) (hx:s.row_Row[k]? = some x) (ht:c.t 0 k=some b):∃(y1:Value) (u1:List Value),G 0 k= [⟨.pointer (some ⟨b,0,none⟩),45,[y1,.bool x.wrap],0⟩,es true ac y1 27 u1 x.cells]∧OA ac c y1 u1 x.cells:=by
 obtain ⟨b',y1,u1,e1,e2,h0⟩:=R.row_Row.ob k x hx;rw [ht] at e1;cases e1;exact ⟨y1,u1,e2,h0⟩
theorem Rel.put_row_Row {c:Cx} {s s':Sto} {G:Gm} {F:List En} {k:Nat} {E':List En} {x':az} (O:Own c (bM G 0 k E') F) (R:Rel c s G) (h:s.set_row_Row k x'=some s') (hY:bh c (c.t 0 k) E' x'):
  ∃G',Own c G' F∧Rel c s' G'∧G' 0 k=E'∧∀G0,bT G0 G→G0 0 k= []→bT G0 G':=by
 unfold Sto.set_row_Row at h;split at h
 ·rename_i hk
  cases h;refine ⟨_,O,⟨R.row_Row.set hk hY⟩,aR _ _ _ _,fun G0 h1 h2 g' k' h3=>?_⟩;rw [bO (by rintro ⟨rfl,rfl⟩; exact h3 h2)];exact h1 g' k' h3
 ·cases h
theorem Rel.new_row_Row {c:Cx} {s:Sto} {G:Gm} {F E:List En} {x:az} {b:Nat} (O:Own c G (E++F)) (R:Rel c s G) (hY:∀c',c.le c'→bh c' (some b) E x):
  ∃c' G',(c'.w=c.w∧c'.A=c.A)∧c.le c'∧c'.t 0 s.row_Row.length=some b∧Own c' G' F∧Rel c' (s.add_row_Row x) G'∧G' 0 s.row_Row.length=E∧G 0 s.row_Row.length= []∧bT G G':=by
 have hE:=R.row_Row.no _ (ay _);have hne:E≠ []:=by
  obtain ⟨_,_,_,_,rfl,_⟩:=hY c (Cx.le.refl c);simp
 obtain ⟨c',hw,hle,ht,O'⟩:=Own.newObj (b:=b) O hE hne;have R':=R.mono hle;refine ⟨c',_,hw,hle,ht,O',⟨R'.row_Row.new (by rw [ht]; exact hY c' hle)⟩,aR _ _ _ _,hE,fun g' k' h3=>?_⟩;exact bO (by rintro ⟨rfl,rfl⟩; exact h3 hE)
def Gl (n:List Nat) (c:Cx):Prop:=(∀g,g∈n→∃v,RE 54 99999 c v (.sent g))∧∀g g',g∈n→g'∈n→g≠g'→∀a,Im c g 0 (.iface 54 (.pointer (some a)))→Im c g' 0 (.iface 54 (.pointer (some a)))→False
theorem Gl.lw {n:List Nat} {c c':Cx} (h:Gl n c) (k:c.lw c'):Gl n c':=by
 have key:∀g,g∈n→∀u,Im c' g 0 u→Im c g 0 u:=fun g hg u hu=>by
  obtain ⟨v,hv⟩:=h.1 g hg;have h1:=hv.im;have h2:=h1.lw k;have h3:=h2.cell.symm.trans hu.cell;cases h3;exact h1
 exact ⟨fun g hg=>(h.1 g hg).imp fun v hv=>hv.lw k,fun g g' hg hg' hne a h1 h2=>h.2 g g' hg hg' hne a (key g hg _ h1) (key g' hg' _ h2)⟩
theorem Gl.mono {n:List Nat} {c c':Cx} (h:Gl n c) (k:c.le c'):Gl n c':=h.lw k.lw
theorem Gl.m {n:List Nat} {c c':Cx} (h:Gl n c) (k:c.le c':=by repeat (first | assumption | refine Cx.le.trans ?_ (by assumption))):Gl n c':=h.mono k
theorem Gl.le {n m:List Nat} {c:Cx} (h:Gl n c) (k:∀g∈m,g∈n):Gl m c:=⟨fun g hg=>h.1 g (k g hg),fun g g' hg hg'=>h.2 g g' (k g hg) (k g' hg')⟩
theorem Gl.get {n:List Nat} {c:Cx} (h:Gl n c) (g:Nat) (hg:g∈n):∃v,RE 54 99999 c v (.sent g):=h.1 g hg
end Go.Proofs.YtmncdniojmigeaaDoor
namespace Go.Proofs.YtmncdniojmigeaaDoor
open Go Go.Lt
set_option maxRecDepth 10000
set_option linter.unusedVariables false
attribute [local irreducible] W WL AC
def bE (p0:List Int):Option (List Int):=app [] p0
abbrev fG:= @Tryd.underlying21
abbrev aO:= @Tryd.underlying22
abbrev aV:= @Tryd.underlying25
abbrev u_3:= @Tryd.underlying3
theorem dz {c0:Cx} {G:Gm} {F:List En} {v1:Value} (O0:Own c0 G F) (p0:List Int) (h1:Sl (RI .i32) c0 v1 p0) {r:List Int} (H:bE p0=some r):
  Calls Tryd.prog 23 #[v1] c0.w (bu c0 fun c v=>∃y1:Value,∃y2:List Value,Own c G (es true (RI .i32) y1 21 y2 r :: F)∧v=y1∧OA (RI .i32) c y1 y2 r):=by
 unfold bE at H
 have hS:=h1
 obtain ⟨a,cap,rfl,h2,h3,h4⟩:=h1
 refine enter (l:=[.slice a p0.length cap]) Tryd.func23 rfl rfl rfl ?_
 refine W.seq ?_
 refine W.region ?_
 refine WL.val0 (v:= .slice none 0 0) rfl (by kernel_rfl) ?_
 refine WL.nil ?_
 refine nrm ?_
 cases a with
 | none=>
  obtain rfl:p0= []:=by
   cases p0 with
   | nil=>rfl
   | cons x t=>
    obtain ⟨b,off,l,e,_⟩:=h4 0 x rfl
    cases e
  obtain rfl:r= []:=by simpa [app] using H.symm
  refine W.seq ?_
  refine W.seq ?_
  refine W.region ?_
  refine WL.val0 (v:= .slice none 0 cap) rfl (by kernel_rfl) ?_
  refine WL.val0 (v:= .bool true) rfl (by kernel_rfl) ?_
  refine WL.nil ?_
  refine nrm ?_
  refine W.cond (t:=true) (by kernel_rfl) (fun _=>?_) (fun h=>by cases h)
  refine W.seq ?_
  refine W.region ?_
  refine WL.val0 (v:= .slice none 0 0) rfl (by kernel_rfl) ?_
  refine WL.nil ?_
  refine nrm ?_
  refine W.ret ?_
  refine thr ?_
  have O1:=O0.addHole (e:=es true (RI .i32) (.slice none 0 0) 21 [] ([]:List Int)) rfl
  exact gk (v:= .slice none 0 0) rfl (by kernel_rfl) ⟨_,c0,rfl,rfl,Cx.le.refl _,_,_,O1,rfl,OA.nil (bJ _)⟩
 | some ad=>
  refine W.seq ?_
  refine W.seq ?_
  refine W.region ?_
  refine WL.val0 (v:= .slice (some ad) p0.length cap) rfl (by kernel_rfl) ?_
  refine WL.val0 (v:= .bool false) rfl (by kernel_rfl) ?_
  refine WL.nil ?_
  refine nrm ?_
  refine W.cond (t:=false) (by kernel_rfl) (fun h=>by cases h) (fun _=>?_)
  refine W.skip ?_
  refine nrm ?_
  refine W.seq ?_
  refine W.region ?_
  refine WL.mem rfl (Own.sl (R:=RI .i32) (E:=21) (ls:=[]) (vs:=[]) (xs:=([]:List Int)) true O0 (bJ _) rfl trivial (by kernel_rfl) (by kernel_rfl)) ?_
  rintro v5 c1 l1 ⟨u1,O1,a1⟩
  refine WL.val0 (v:= .slice (some ad) p0.length cap) rfl (by kernel_rfl) ?_
  refine WL.mem rfl (Own.app (R:=RI .i32) (z:= .int .i32 0) (by_:=4) (ty:=25) 0 O1 rfl a1 (hS.mono l1) H Tryd.underlying25 (by kernel_rfl) rfl (by kernel_rfl) (by kernel_rfl)) ?_
  rintro v6 c2 l2 ⟨u2,O2,a2⟩
  refine WL.val0 (v:=v6) rfl (by kernel_rfl) ?_
  refine WL.nil ?_
  refine nrm ?_
  refine W.ret ?_
  exact gk (v:=v6) rfl (by kernel_rfl) ⟨_,c2,rfl,rfl,l1.trans l2,_,_,O2,rfl,a2⟩
end Go.Proofs.YtmncdniojmigeaaDoor
namespace Go.Proofs.YtmncdniojmigeaaDoor
open Go Go.Lt
set_option maxRecDepth 10000
set_option linter.unusedVariables false
attribute [local irreducible] W WL AC
open Tryd
variable {c0:Cx} {G:Gm} {F:List En} {sg:Sto} {v1 v2 v3 v4 v5 v6 v7 v8 v9 v10 v11 v12 v13 v14 v15 v16 v17 v18 v19 v20 v21 v22 v23 v24 v25 v26 v27 v28 v29 v30 v31 v32 v33 v34 v35 v36 v37 v38 v39 v40 v41 v42 v43 v44 v45 v46 v47 v48 v49 v50 v51 v52 v53 v54 v55 v56 v57 v58 v59 v60:Value}
def bj (p0:Int):Option (Bool):=
 (ce (decide (p0≥0)) (some (decide (p0 < 55296)))).bind fun b=>
 (orE b ((ce (decide (p0 > 57343)) (some (decide (p0≤1114111)))).bind fun a=>
 some a)).bind fun c=>
 some c
theorem dA (e:Own c0 G F) (a:Int) {r:Bool} (H:bj a=some r): Calls prog 26 #[J a] c0.w (bu c0 fun c v=>Own c G (F)∧v=B r):=by
 unfold bj at H;refine en func26 rfl rfl (sr (va (B false) (wln (W.seq (bn H fun z t H=>bn H fun s n H=>W.join (Jn c0 fun c l=>Own c G (F)∧l= [(2,B s)]) ?_ ?_)))))
 ·clear H;refine W.region (va (J a) (va (B (decide (a≥0))) ?_));rcases bo (decide (a≥0)) with f | f
  ·have x:=anT f t;refine vb f (wa (J a) (wa (B (decide (a < 55296))) ?_));obtain rfl:=si x;refine va (B (decide (a < 55296))) ?_;rcases bo (decide (a < 55296)) with g | g
   ·obtain rfl:=orT g n;exact vb g (pz (pz (pz (vv (B true) (wln (jn c0 ⟨e,rfl⟩))))))
   have i:=orF g n;refine vb g (wa (J a) (wa (B (decide (a > 57343))) (wn (bn i fun m u i=>?_))));rcases bo (decide (a > 57343)) with h | h
   ·have y:=anT h u;refine vb h (wa (J a) (wa (B (decide (a≤1114111))) (wn ?_)));obtain rfl:=si y;refine va (B (decide (a≤1114111))) ?_;obtain rfl:=si i;exact vv (B (decide (a≤1114111))) (wln (jn c0 ⟨e,rfl⟩))
   obtain rfl:=anF h u;refine vb h (pz (wa (B false) ?_));obtain rfl:=si i;exact vv (B false) (wln (jn c0 ⟨e,rfl⟩))
  obtain rfl:=anF f t;refine vb f (pz (va (B false) ?_));have j:false=false:=rfl;have d:=orF j n;refine vb j (wa (J a) (wa (B (decide (a > 57343))) (wn (bn d fun m k d=>?_))));rcases bo (decide (a > 57343)) with b | b
  ·have o:=anT b k;refine vb b (wa (J a) (wa (B (decide (a≤1114111))) (wn ?_)));obtain rfl:=si o;refine va (B (decide (a≤1114111))) ?_;obtain rfl:=si d;exact vv (B (decide (a≤1114111))) (wln (jn c0 ⟨e,rfl⟩))
  obtain rfl:=anF b k;refine vb b (pz (wa (B false) ?_));obtain rfl:=si d;exact vv (B false) (wln (jn c0 ⟨e,rfl⟩))
 rintro E M ⟨q,A,_,rfl,D,rfl,p,rfl⟩;refine nrm (W.ret ?_);obtain rfl:=si H;exact r1 (qq q ⟨p,rfl⟩)
def aB (p0:Int):Option (Bool):=
 (ce (decide (p0≥0)) (some (decide (p0≤1114111)))).bind fun b=>
 (ce b ((orE (decide (p0 < 55296)) (some (decide (p0 > 57343)))).bind fun a=>
 some a)).bind fun c=>
 some c
theorem cy (g:Own c0 G F) (a:Int) {r:Bool} (H:aB a=some r): Calls prog 21 #[J a] c0.w (bu c0 fun c v=>Own c G (F)∧v=B r):=by
 unfold aB at H;refine en func21 rfl rfl (sr (va (B false) (wln (W.seq (bn H fun t n H=>bn H fun m i H=>W.join (Jn c0 fun c l=>Own c G (F)∧l= [(2,B m)]) ?_ ?_)))))
 ·clear H;refine W.region (va (J a) (va (B (decide (a≥0))) ?_));rcases bo (decide (a≥0)) with b | b
  ·have p:=anT b n;refine vb b (wa (J a) (wa (B (decide (a≤1114111))) ?_));obtain rfl:=si p;refine va (B (decide (a≤1114111))) ?_;rcases bo (decide (a≤1114111)) with d | d
   ·have f:=anT d i;refine vb d (wa (J a) (wa (B (decide (a < 55296))) (wn (bn f fun s o f=>?_))));rcases bo (decide (a < 55296)) with e | e
    ·obtain rfl:=orT e o;refine vb e (pz (wa (B true) ?_));obtain rfl:=si f;exact vv (B true) (wln (jn c0 ⟨g,rfl⟩))
    have q:=orF e o;refine vb e (wa (J a) (wa (B (decide (a > 57343))) (wn ?_)));obtain rfl:=si q;refine va (B (decide (a > 57343))) ?_;obtain rfl:=si f;exact vv (B (decide (a > 57343))) (wln (jn c0 ⟨g,rfl⟩))
   obtain rfl:=anF d i;exact vb d (pz (pz (pz (vv (B false) (wln (jn c0 ⟨g,rfl⟩))))))
  obtain rfl:=anF b n;refine vb b (pz (va (B false) ?_));have h:false=false:=rfl;obtain rfl:=anF h i;exact vb h (pz (pz (pz (vv (B false) (wln (jn c0 ⟨g,rfl⟩))))))
 rintro y z ⟨k,u,_,rfl,x,rfl,j,rfl⟩;refine nrm (W.ret ?_);obtain rfl:=si H;exact r1 (qq k ⟨j,rfl⟩)
def aE (p0:List Int) (p1:List Int):Option (Bool):=
 if ((p0.length:Int) != (p1.length:Int))=true then
 some false
 else
 (bN (σ:=Int) (τ:=Bool ⊕ Unit) (((p0.length:Int) - 0).toNat+1) (fun b=>
 if (decide (b < (p0.length:Int)))=true then
 (idx p0 b).bind fun c=>
 (idx p1 b).bind fun d=>
 if (c != d)=true then
 some (.inr (.inl false))
 else
 some (.inl ((w64 (b+1))))
 else
 some (.inr (.inr ()))) (0)).bind fun a=>
 match a with
 | .inl a=>
 some a
 | .inr a=>
 some true
theorem cE (A:Own c0 G F) (h:List Int) (u:List Int) {r:Bool} (g:Sl (RI .i32) c0 v1 h) (s:Sl (RI .i32) c0 v3 u) (H:aE h u=some r): Calls prog 17 #[v1,v3] c0.w (bu c0 fun c v=>Own c G (F)∧v=B r):=by
 unfold aE at H;refine en func17 rfl rfl (sr (va (B false) (wln (W.seq (sr (va (v1) (vx (ln 3 aV g) (va (v3) (vx (ln 3 aV s) (va (B ((h.length:Int) != (u.length:Int))) (wln (cn H (fun h5 H=>?_) (fun h5 H=>?_)))))))))))))
 ·refine sr (va (B false) (wln (W.ret (thr ?_))));obtain rfl:=si H;exact r1 (qq c0 ⟨A,rfl⟩)
 refine W.skip (nrm (W.seq (sr (va (I 0) (wln (W.block (bn H fun b h6 p=>lp h6 (fun a=>Jn c0 fun c l=>Own c G (F)∧l= [(0,v1),(1,v3),(5,I a)]) (fun t=>match t with | .inl x=>(fun f0 ex e w=>ex= .ret∧(Jn c0 fun c l=>Own c G (F)∧l= [(4,B f0)]) e w) x | .inr x=>(fun i0 ex e w=>ex= .exit 0∧(Jn c0 fun c l=>Own c G (F)∧l= []) e w) x) ?_ ?_ ?_)))))))
 ·clear p h6;intro a v0 R h0 H;revert R h0;rintro P w_ ⟨c8,g9,_,rfl,l8,rfl,i,rfl⟩;refine W.seq (sr (va (I a) (va (v1) (vx (ln 3 aV g.m) (va (B (decide (a < (h.length:Int)))) (wln (cn H (fun T H=>?_) (fun T H=>?_))))))))
  ·refine W.skip (nrm (W.seq (W.block (W.seq (rD [] (Kp G0 []) i ?_)))));intro d o j;have u0:Kp G0 [] d:=Kp.nil0;refine ta 0 (v1) (ta 1 (I a) (bn H fun y k H=>?_));obtain ⟨l0,U,d0⟩:=Sl.at (g.mono (l8.trans o)) (aH k);obtain rfl:=U;refine tx 2 (fun q f=>ix aV g.m k) (tx 3 (fun q f=>l1 fG ((mm d0) 0 _ rfl)) (ta 4 (v3) (ta 5 (I a) (bn H fun z n H=>?_))));obtain ⟨m0,X,e0⟩:=Sl.at (s.mono (l8.trans o)) (aH n);obtain rfl:=X;refine tx 6 (fun q f=>ix aV s.m n) (tx 7 (fun q f=>l1 fG ((mm e0) 0 _ rfl)) (ta 8 (B (y != z)) (dn (nrm (cn H (fun Z H=>?_) (fun Z H=>?_))))))
   ·refine sr (va (B false) (wln (W.ret (bkr (thr ?_)))));obtain rfl:=si H;exact ⟨_,rfl,⟨rfl,jn d ⟨j,rfl⟩⟩⟩
   refine W.skip (bkn (nrm (W.region (va (I a) (vv (I (w64 (a+1))) (WL.nil ?_))))));obtain rfl:=si H;exact ⟨_,rfl,jn d ⟨j,rfl⟩⟩
  refine W.exit (thx ?_);obtain rfl:=si H;exact ⟨_,rfl,rfl,jn c8 ⟨i,rfl⟩⟩
 ·exact jn c0 ⟨A,rfl⟩
 rcases b with b | b
 ·intro S; revert S;rintro _ P w_ ⟨rfl,M,o0,_,rfl,s0,rfl,D,rfl⟩;refine bkr (thr ?_);obtain rfl:=si p;exact r1 (qq M ⟨D,rfl⟩)
 rintro _ P w_ ⟨rfl,N,q0,_,rfl,t0,rfl,E,rfl⟩;refine bke (nrm (sr (va (B true) (wln (W.ret ?_)))));obtain rfl:=si p;exact r1 (qq N ⟨E,rfl⟩)
def aA (p0:aa):Option (Bool):=
 (orE (p0.Kind==0) (some (p0.Kind==3))).bind fun h=>
 if h=true then
 some ((p0.Text.length:Int)==0)
 else
 (ce (p0.Kind != 1) (some (p0.Kind != 2))).bind fun c=>
 (orE c (some (decide ((p0.Text.length:Int) < 1)))).bind fun d=>
 (orE d (some (decide ((p0.Text.length:Int) > 16)))).bind fun e=>
 if e=true then
 some false
 else
 (bN (σ:=Int) (τ:=Bool ⊕ Unit) (((p0.Text.length:Int) - 0).toNat+1) (fun b=>
 if (decide (b < (p0.Text.length:Int)))=true then
 (idx p0.Text b).bind fun f=>
 (aB f).bind fun g=>
 if (!g)=true then
 some (.inr (.inl false))
 else
 some (.inl ((w64 (b+1))))
 else
 some (.inr (.inr ()))) (0)).bind fun a=>
 match a with
 | .inl a=>
 some a
 | .inr a=>
 some true
theorem cx (O0:Own c0 G F) (a:aa) {r:Bool} (i:Sl (RI .i32) c0 v1 a.Text) (H:aA a=some r): Calls prog 13 #[.agg #[I a.Kind,v1]] c0.w (bu c0 fun c v=>Own c G (F)∧v=B r):=by
 unfold aA at H;refine en func13 rfl rfl (sr ?_);obtain ⟨a3,a4,a5,rfl⟩:=(i).form;refine me (bx 27 [I a.Kind,.slice a3 a4 a5] O0) ?_;rintro v10 Z l9 ⟨d,rfl,O7,g⟩;refine va (B false) (wln (W.seq (W.seq (bn H fun u0 P H=>W.join (Jn Z fun c l=>Own c G (F)∧l= [(1,Q d),(11,B u0)]) ?_ ?_))))
 ·clear H;refine W.region (va (Q d) (vx (l1 u_3 (g 0 _ rfl)) (va (B (a.Kind==0)) ?_)));rcases bo (a.Kind==0) with k | k
  ·obtain rfl:=orT k P;exact vb k (pz (ps (va (B true) (wln (jn Z ⟨O7,rfl⟩)))))
  have f0:=orF k P;refine vb k (wa (Q d) (wn (vx (l1 u_3 (g 0 _ rfl)) (wa (B (a.Kind==3)) ?_))));obtain rfl:=si f0;exact va (B (a.Kind==3)) (wln (jn Z ⟨O7,rfl⟩))
 rintro z A ⟨f,w1,_,rfl,d1,rfl,h,rfl⟩;refine nrm (cn H (fun x0 H=>?_) (fun x0 H=>?_))
 ·refine sr (va (Qo d (0+1)) (vx (l1 aV ((mm g) 1 _ rfl)) (vx (ln 3 aV i.m) (vv (B ((a.Text.length:Int)==0)) (wln (W.ret (thr ?_)))))));obtain rfl:=si H;exact r1 (qq f ⟨h,rfl⟩)
 refine W.skip (nrm (W.seq (W.seq (bn H fun q1 R H=>bn H fun s1 y H=>bn H fun a0 n H=>W.join (Jn f fun c l=>Own c G (F)∧l= [(1,Q d),(35,B a0)]) ?_ ?_))))
 ·clear H;refine W.region (va (Q d) (vx (l1 u_3 ((mm g) 0 _ rfl)) (va (B (a.Kind != 1)) ?_)));rcases bo (a.Kind != 1) with o | o
  ·have g0:=anT o R;refine vb o (wa (Q d) (wn (vx (l1 u_3 ((mm g) 0 _ rfl)) (wa (B (a.Kind != 2)) ?_))));obtain rfl:=si g0;refine va (B (a.Kind != 2)) ?_;rcases bo (a.Kind != 2) with p | p
   ·obtain rfl:=orT p y;refine vb p (pz (pz (va (B true) ?_)));have S:true=true:=rfl;obtain rfl:=orT S n;exact vb S (pz (pz (va (B true) (wln (jn f ⟨h,rfl⟩)))))
   have h0:=orF p y;refine vb p (wa (Qo d (0+1)) (wn (vx (l1 aV ((mm g) 1 _ rfl)) (wn (vx (ln 3 aV i.m) (wa (B (decide ((a.Text.length:Int) < 1))) ?_))))));obtain rfl:=si h0;refine va (B (decide ((a.Text.length:Int) < 1))) ?_;rcases bo (decide ((a.Text.length:Int) < 1)) with q | q
   ·obtain rfl:=orT q n;exact vb q (pz (pz (va (B true) (wln (jn f ⟨h,rfl⟩)))))
   have i0:=orF q n;refine vb q (wa (Qo d (0+1)) (wn (vx (l1 aV ((mm g) 1 _ rfl)) (wn (vx (ln 3 aV i.m) (wa (B (decide ((a.Text.length:Int) > 16))) ?_))))));obtain rfl:=si i0;exact va (B (decide ((a.Text.length:Int) > 16))) (wln (jn f ⟨h,rfl⟩))
  obtain rfl:=anF o R;refine vb o (pz (ps (va (B false) ?_)));have T:false=false:=rfl;have j0:=orF T y;refine vb T (wa (Qo d (0+1)) (wn (vx (l1 aV ((mm g) 1 _ rfl)) (wn (vx (ln 3 aV i.m) (wa (B (decide ((a.Text.length:Int) < 1))) ?_))))));obtain rfl:=si j0;refine va (B (decide ((a.Text.length:Int) < 1))) ?_;rcases bo (decide ((a.Text.length:Int) < 1)) with s | s
  ·obtain rfl:=orT s n;exact vb s (pz (pz (va (B true) (wln (jn f ⟨h,rfl⟩)))))
  have k0:=orF s n;refine vb s (wa (Qo d (0+1)) (wn (vx (l1 aV ((mm g) 1 _ rfl)) (wn (vx (ln 3 aV i.m) (wa (B (decide ((a.Text.length:Int) > 16))) ?_))))));obtain rfl:=si k0;exact va (B (decide ((a.Text.length:Int) > 16))) (wln (jn f ⟨h,rfl⟩))
 rintro z A ⟨j,x1,_,rfl,e1,rfl,D,rfl⟩;refine nrm (cn H (fun y0 H=>?_) (fun y0 H=>?_))
 ·refine sr (va (B false) (wln (W.ret (thr ?_))));obtain rfl:=si H;exact r1 (qq j ⟨D,rfl⟩)
 refine W.skip (nrm (W.seq (sr (va (I 0) (wln (W.block (bn H fun u U x=>lp U (fun b=>Jn j fun c l=>Own c G (F)∧l= [(1,Q d),(3,I b)]) (fun t=>match t with | .inl x_=>(fun h1 ex e w=>ex= .ret∧(Jn j fun c l=>Own c G (F)∧l= [(2,B h1)]) e w) x_ | .inr x_=>(fun j1 ex e w=>ex= .exit 0∧(Jn j fun c l=>Own c G (F)∧l= []) e w) x_) ?_ ?_ ?_)))))))
 ·clear x U;intro b g2 v0 i1 H;revert v0 i1;rintro z A ⟨q0,y1,_,rfl,f1,rfl,E,rfl⟩;refine W.seq (sr (va (I b) (va (Qo d (0+1)) (vx (l1 aV ((mm g) 1 _ rfl)) (vx (ln 3 aV i.m) (va (B (decide (b < (a.Text.length:Int)))) (wln (cn H (fun z0 H=>?_) (fun z0 H=>?_)))))))))
  ·refine W.skip (nrm (W.seq (W.block (sr (va (Qo d (0+1)) (vx (l1 aV ((mm g) 1 _ rfl)) (va (I b) (bn H fun d0 X H=>?_))))))));obtain ⟨u1,a1,g1⟩:=Sl.at (i.mono (l9.trans (d1.trans (e1.trans f1)))) (aH X);obtain rfl:=a1;refine vx (ix aV i.m X) (vx (l1 fG (g1 0 _ rfl)) (bn H fun e0 b1 H=>cl (cy E d0 b1) ?_));rintro f2 N c2 ⟨M,rfl⟩;refine va (B (!e0)) (wln (cn H (fun c1 H=>?_) (fun c1 H=>?_)))
   ·refine sr (va (B false) (wln (W.ret (bkr (thr ?_)))));obtain rfl:=si H;exact ⟨_,rfl,⟨rfl,jn N ⟨M,rfl⟩⟩⟩
   refine W.skip (bkn (nrm (W.region (va (I b) (vv (I (w64 (b+1))) (WL.nil ?_))))));obtain rfl:=si H;exact ⟨_,rfl,jn N ⟨M,rfl⟩⟩
  refine W.exit (thx ?_);obtain rfl:=si H;exact ⟨_,rfl,rfl,jn q0 ⟨E,rfl⟩⟩
 ·exact jn j ⟨D,rfl⟩
 rcases u with u | u
 ·intro w0; revert w0;rintro _ z A ⟨rfl,s0,z1,_,rfl,d2,rfl,l0,rfl⟩;refine bkr (thr ?_);obtain rfl:=si x;exact r1 (qq s0 ⟨l0,rfl⟩)
 rintro _ z A ⟨rfl,t0,b2,_,rfl,e2,rfl,o0,rfl⟩;refine bke (nrm (sr (va (B true) (wln (W.ret ?_)))));obtain rfl:=si x;exact r1 (qq t0 ⟨o0,rfl⟩)
def au (p0:List aa) (p1:Int):Option (Int):=
 (orE (decide (p1 < 0)) (some (decide (p1≥(p0.length:Int))))).bind fun b=>
 if b=true then
 some 0
 else
 (idx p0 p1).bind fun a=>
 some a.Kind
theorem bm (h:Own c0 G F) (d:List aa) (a:Int) {r:Int} (f:Sl ac c0 v1 d) (H:au d a=some r): Calls prog 14 #[v1,I a] c0.w (bu c0 fun c v=>Own c G (F)∧v=I r):=by
 unfold au at H;refine en func14 rfl rfl (sr (va (I 0) (wln (W.seq (W.seq (bn H fun k p H=>W.join (Jn c0 fun c l=>Own c G (F)∧l= [(0,v1),(1,I a),(12,B k)]) ?_ ?_))))))
 ·clear H;refine W.region (va (I a) (va (B (decide (a < 0))) ?_));rcases bo (decide (a < 0)) with b | b
  ·obtain rfl:=orT b p;exact vb b (pz (pz (va (B true) (wln (jn c0 ⟨h,rfl⟩)))))
  have s:=orF b p;refine vb b (wa (I a) (wa (v1) (wn (vx (ln 3 aO f) (wa (B (decide (a≥(d.length:Int)))) ?_)))));obtain rfl:=si s;exact va (B (decide (a≥(d.length:Int)))) (wln (jn c0 ⟨h,rfl⟩))
 rintro y A ⟨j,z,_,rfl,t,rfl,i,rfl⟩;refine nrm (cn H (fun n H=>?_) (fun n H=>?_))
 ·refine sr (va (I 0) (wln (W.ret (thr ?_))));obtain rfl:=si H;exact r1 (qq j ⟨i,rfl⟩)
 refine W.skip (nrm (sr (va (v1) (va (I a) (bn H fun g e H=>?_)))));obtain ⟨u,o,q⟩:=Sl.at (f.mono t) (aH e);obtain ⟨v17,rfl,x⟩:=o;refine vx (ix aO f.m e) (va (Qo (sb v1) (so v1+a.toNat * 2)) (vx (l1 u_3 (q 0 _ rfl)) (va (I g.Kind) (wln (W.ret ?_)))));obtain rfl:=si H;exact r1 (qq j ⟨i,rfl⟩)
def aI (p0:List aa):Option (Bool):=
 (bN (σ:=Int) (τ:=Bool ⊕ Unit) (((p0.length:Int) - 0).toNat+1) (fun a=>
 if (decide (a < (p0.length:Int)))=true then
 (idx p0 a).bind fun g=>
 (aA g).bind fun h=>
 (orE (!h) ((idx p0 a).bind fun i=>
 (ce (i.Kind==2) ((au p0 (w64 (a+1))).bind fun j=>
 some (j != 3))).bind fun d=>
 some d)).bind fun c=>
 (orE c ((idx p0 a).bind fun k=>
 (ce (k.Kind==3) ((au p0 (w64 (a - 1))).bind fun l=>
 some (l != 2))).bind fun f=>
 some f)).bind fun e=>
 if e=true then
 some (.inr (.inl false))
 else
 some (.inl ((w64 (a+1))))
 else
 some (.inr (.inr ()))) (0)).bind fun b=>
 match b with
 | .inl b=>
 some b
 | .inr b=>
 some true
theorem cw (O0:Own c0 G F) (x:List aa) {r:Bool} (d:Sl ac c0 v1 x) (H:aI x=some r): Calls prog 5 #[v1] c0.w (bu c0 fun c v=>Own c G (F)∧v=B r):=by
 unfold aI at H;refine en func5 rfl rfl (sr (va (B false) (wln (W.seq (sr (va (I 0) (wln (W.block (bn H fun M h3 H4=>lp h3 (fun a=>Jn c0 fun c l=>Own c G (F)∧l= [(0,v1),(3,I a)]) (fun t=>match t with | .inl x_=>(fun c2 ex e w=>ex= .ret∧(Jn c0 fun c l=>Own c G (F)∧l= [(2,B c2)]) e w) x_ | .inr x_=>(fun m2 ex e w=>ex= .exit 0∧(Jn c0 fun c l=>Own c G (F)∧l= []) e w) x_) ?_ ?_ ?_)))))))))
 ·clear H4 h3;intro a c3 e1 d2 H;revert e1 d2;rintro e_ w_ ⟨c5,g6,_,rfl,R,rfl,O7,rfl⟩;refine W.seq (sr (va (I a) (va (v1) (vx (ln 3 aO d.m) (va (B (decide (a < (x.length:Int)))) (wln (cn H (fun g1 H=>?_) (fun g1 H=>?_))))))))
  ·refine W.skip (nrm (W.seq (W.block (W.seq (bn H fun t0 Z H=>bn H fun N h1 H=>bn H fun f2 a0 H=>bn H fun l0 u H=>W.join (Jn c5 fun c l=>Own c G (F)∧l= [(0,v1),(3,I a),(45,B l0)]) ?_ ?_)))))
   ·clear H;refine W.region (va (v1) (va (I a) ?_));obtain ⟨i2,i1,x1⟩:=Sl.at (d.mono R) (aH Z);obtain ⟨v19,rfl,j1⟩:=i1;refine vx (ix aO d.m Z) (vx (lN 27 x1) (cl (cx O7 t0 j1 h1) ?_));rintro v26 T E ⟨s,rfl⟩;refine va (B (!N)) ?_;rcases bo (!N) with k | k
    ·obtain rfl:=orT k a0;refine vb k (pz (pz (pz (pz (pz (pz (ps (va (B true) ?_))))))));have b0:true=true:=rfl;obtain rfl:=orT b0 u;exact vb b0 (pz (pz (pz (pz (pz (pz (ps (va (B true) (wln (jn T ⟨s,rfl⟩))))))))))
    have g:=orF k a0;refine vb k (wa (v1) (wa (I a) (wn (bn g fun P d0 g=>?_))));obtain ⟨j2,m1,y1⟩:=Sl.at (d.mono (R.trans E)) (aH d0);obtain ⟨v34,rfl,q2⟩:=m1;refine vx (ix aO d.m d0) (wa (Qo (sb v1) (so v1+a.toNat * 2)) (wn (vx (l1 u_3 (y1 0 _ rfl)) (wa (B (P.Kind==2)) (wn (bn g fun g2 e0 g=>?_))))));rcases bo (P.Kind==2) with n | n
    ·have y:=anT n e0;refine vb n (wa (v1) (wa (I a) (wa (I (w64 (a+1))) (wn (bn y fun j n1 y=>cl (bm s x (w64 (a+1)) d.m n1) ?_)))));rintro v45 U w1 ⟨D,rfl⟩;refine wa (B (j != 3)) (wn ?_);obtain rfl:=si y;refine va (B (j != 3)) ?_;obtain rfl:=si g;refine va (B (j != 3)) ?_;rcases bo (j != 3) with o | o
     ·obtain rfl:=orT o u;exact vb o (pz (pz (pz (pz (pz (pz (ps (va (B true) (wln (jn U ⟨D,rfl⟩))))))))))
     have h:=orF o u;refine vb o (wa (v1) (wa (I a) (wn (bn h fun f f0 h=>?_))));obtain ⟨k2,p1,z1⟩:=Sl.at (d.mono (R.trans (E.trans w1))) (aH f0);obtain ⟨v52,rfl,s2⟩:=p1;refine vx (ix aO d.m f0) (wa (Qo (sb v1) (so v1+a.toNat * 2)) (wn (vx (l1 u_3 (z1 0 _ rfl)) (wa (B (f.Kind==3)) (wn (bn h fun m0 g0 h=>?_))))));rcases bo (f.Kind==3) with p | p
     ·have z:=anT p g0;refine vb p (wa (v1) (wa (I a) (wa (I (w64 (a - 1))) (wn (bn z fun b q1 z=>cl (bm D x (w64 (a - 1)) d.m q1) ?_)))));rintro z2 a1 u2 ⟨u0,rfl⟩;refine wa (B (b != 2)) (wn ?_);obtain rfl:=si z;refine va (B (b != 2)) ?_;obtain rfl:=si h;exact va (B (b != 2)) (wln (jn a1 ⟨u0,rfl⟩))
     obtain rfl:=anF p g0;refine vb p (pz (pz (ps (wa (B false) ?_))));obtain rfl:=si h;exact va (B false) (wln (jn U ⟨D,rfl⟩))
    obtain rfl:=anF n e0;refine vb n (pz (pz (ps (wa (B false) ?_))));obtain rfl:=si g;refine va (B false) ?_;have h0:false=false:=rfl;have i:=orF h0 u;refine vb h0 (wa (v1) (wa (I a) (wn (bn i fun f i0 i=>?_))));obtain ⟨l2,s1,b2⟩:=Sl.at (d.mono (R.trans E)) (aH i0);obtain ⟨a3,rfl,t2⟩:=s1;refine vx (ix aO d.m i0) (wa (Qo (sb v1) (so v1+a.toNat * 2)) (wn (vx (l1 u_3 (b2 0 _ rfl)) (wa (B (f.Kind==3)) (wn (bn i fun m0 j0 i=>?_))))));rcases bo (f.Kind==3) with q | q
    ·have A:=anT q j0;refine vb q (wa (v1) (wa (I a) (wa (I (w64 (a - 1))) (wn (bn A fun b t1 A=>cl (bm s x (w64 (a - 1)) d.m t1) ?_)))));rintro b3 b1 v2 ⟨w0,rfl⟩;refine wa (B (b != 2)) (wn ?_);obtain rfl:=si A;refine va (B (b != 2)) ?_;obtain rfl:=si i;exact va (B (b != 2)) (wln (jn b1 ⟨w0,rfl⟩))
    obtain rfl:=anF q j0;refine vb q (pz (pz (ps (wa (B false) ?_))));obtain rfl:=si i;exact va (B false) (wln (jn T ⟨s,rfl⟩))
   rintro e_ w_ ⟨X,n2,_,rfl,w2,rfl,S,rfl⟩;refine nrm (cn H (fun u1 H=>?_) (fun u1 H=>?_))
   ·refine sr (va (B false) (wln (W.ret (bkr (thr ?_)))));obtain rfl:=si H;exact ⟨_,rfl,⟨rfl,jn X ⟨S,rfl⟩⟩⟩
   refine W.skip (bkn (nrm (W.region (va (I a) (vv (I (w64 (a+1))) (WL.nil ?_))))));obtain rfl:=si H;exact ⟨_,rfl,jn X ⟨S,rfl⟩⟩
  refine W.exit (thx ?_);obtain rfl:=si H;exact ⟨_,rfl,rfl,jn c5 ⟨O7,rfl⟩⟩
 ·exact jn c0 ⟨O0,rfl⟩
 rcases M with M | M
 ·intro f1; revert f1;rintro _ e_ w_ ⟨rfl,c1,o2,_,rfl,x2,rfl,x0,rfl⟩;refine bkr (thr ?_);obtain rfl:=si H4;exact r1 (qq c1 ⟨x0,rfl⟩)
 rintro _ e_ w_ ⟨rfl,d1,p2,_,rfl,y2,rfl,y0,rfl⟩;refine bke (nrm (sr (va (B true) (wln (W.ret ?_)))));obtain rfl:=si H4;exact r1 (qq d1 ⟨y0,rfl⟩)
def aD (p0:List aa) (p1:List aa):Option (Bool):=
 if ((p0.length:Int) != (p1.length:Int))=true then
 some false
 else
 (bN (σ:=Int) (τ:=Bool ⊕ Unit) (((p0.length:Int) - 0).toNat+1) (fun a=>
 if (decide (a < (p0.length:Int)))=true then
 (idx p0 a).bind fun d=>
 (idx p1 a).bind fun e=>
 (orE (d.Kind != e.Kind) ((idx p0 a).bind fun f=>
 (idx p1 a).bind fun g=>
 (aE f.Text g.Text).bind fun h=>
 some (!h))).bind fun c=>
 if c=true then
 some (.inr (.inl false))
 else
 some (.inl ((w64 (a+1))))
 else
 some (.inr (.inr ()))) (0)).bind fun b=>
 match b with
 | .inl b=>
 some b
 | .inr b=>
 some true
theorem cD (O0:Own c0 G F) (s:List aa) (X:List aa) {r:Bool} (j:Sl ac c0 v1 s) (k:Sl ac c0 v3 X) (H:aD s X=some r): Calls prog 9 #[v1,v3] c0.w (bu c0 fun c v=>Own c G (F)∧v=B r):=by
 unfold aD at H;refine en func9 rfl rfl (sr (va (B false) (wln (W.seq (sr (va (v1) (vx (ln 3 aO j) (va (v3) (vx (ln 3 aO k) (va (B ((s.length:Int) != (X.length:Int))) (wln (cn H (fun h5 H=>?_) (fun h5 H=>?_)))))))))))))
 ·refine sr (va (B false) (wln (W.ret (thr ?_))));obtain rfl:=si H;exact r1 (qq c0 ⟨O0,rfl⟩)
 refine W.skip (nrm (W.seq (sr (va (I 0) (wln (W.block (bn H fun h h6 S=>lp h6 (fun a=>Jn c0 fun c l=>Own c G (F)∧l= [(0,v1),(1,v3),(5,I a)]) (fun t=>match t with | .inl x_=>(fun f1 ex e w=>ex= .ret∧(Jn c0 fun c l=>Own c G (F)∧l= [(4,B f1)]) e w) x_ | .inr x_=>(fun h1 ex e w=>ex= .exit 0∧(Jn c0 fun c l=>Own c G (F)∧l= []) e w) x_) ?_ ?_ ?_)))))))
 ·clear S h6;intro a d2 l0 g1 H;revert l0 g1;rintro U Z ⟨c8,g9,_,rfl,q,rfl,u,rfl⟩;refine W.seq (sr (va (I a) (va (v1) (vx (ln 3 aO j.m) (va (B (decide (a < (s.length:Int)))) (wln (cn H (fun o0 H=>?_) (fun o0 H=>?_))))))))
  ·refine W.skip (nrm (W.seq (W.block (W.seq (bn H fun n E H=>bn H fun o M H=>bn H fun T N H=>W.join (Jn c8 fun c l=>Own c G (F)∧l= [(0,v1),(1,v3),(5,I a),(41,B T)]) ?_ ?_)))))
   ·clear H;refine rD [] (Kp G0 []) u ?_;intro z i x;have c2:Kp G0 [] z:=Kp.nil0;refine ta 0 (v1) (ta 1 (I a) ?_);obtain ⟨j1,q0,a1⟩:=Sl.at (j.mono (q.trans i)) (aH E);obtain ⟨v24,rfl,u1⟩:=q0;refine tx 2 (fun f b=>ix aO j.m E) (ta 3 (Qo (sb v1) (so v1+a.toNat * 2)) (tx 4 (fun f b=>l1 u_3 ((mm a1) 0 _ rfl)) (ta 5 (v3) (ta 6 (I a) ?_))));obtain ⟨k1,s0,b1⟩:=Sl.at (k.mono (q.trans i)) (aH M);obtain ⟨v29,rfl,w1⟩:=s0;refine tx 7 (fun f b=>ix aO k.m M) (ta 8 (Qo (sb v3) (so v3+a.toNat * 2)) (tx 9 (fun f b=>l1 u_3 ((mm b1) 0 _ rfl)) (ta 10 (B (n.Kind != o.Kind)) ?_)));rcases bo (n.Kind != o.Kind) with g | g
    ·obtain rfl:=orT g N;exact AC.takeb 11 g rfl (by kernel_rfl) (by kernel_rfl) (fun f b=>(by kernel_rfl)) (tp 12 (tp 13 (tp 14 (tp 15 (tp 16 (tp 17 (tp 18 (tp 19 (tp 20 (tp 21 (tp 22 (tp 23 (ta 24 (B true) (dn (nrm (jn z ⟨x,rfl⟩))))))))))))))))
    have d:=orF g N;refine bn d fun b0 P d=>bn d fun d0 R d=>bn d fun p t0 d=>AC.takeb 11 g rfl (by kernel_rfl) (by kernel_rfl) (fun f b=>(by kernel_rfl)) (ta 12 (v1) (ta 13 (I a) ?_));obtain ⟨m1,u0,c1⟩:=Sl.at (j.mono (q.trans i)) (aH P);obtain ⟨v39,rfl,v0⟩:=u0;refine tx 14 (fun f b=>ix aO j.m P) (ta 15 (Qo (sb v1) (so v1+a.toNat * 2+1)) (tx 16 (fun f b=>l1 aV ((mm c1) 1 _ rfl)) (ta 17 (v3) (ta 18 (I a) ?_))));obtain ⟨n1,w0,d1⟩:=Sl.at (k.mono (q.trans i)) (aH R);obtain ⟨v44,rfl,x0⟩:=w0;refine tx 19 (fun f b=>ix aO k.m R) (ta 20 (Qo (sb v3) (so v3+a.toNat * 2+1)) (tx 21 (fun f b=>l1 aV ((mm d1) 1 _ rfl)) (o1 22 (gc 22 (cE x b0.Text d0.Text v0 x0 t0) ?_))));rintro v51 A x1 ⟨f0,rfl⟩;have e1:Kp G0 [] A:=Kp.nil0;refine ⟨.inr e1,ta 23 (B (!p)) ?_⟩;obtain rfl:=si d;exact ta 24 (B (!p)) (dn (nrm (jn A ⟨f0,rfl⟩)))
   rintro U Z ⟨D,q1,_,rfl,y1,rfl,y,rfl⟩;refine nrm (cn H (fun y0 H=>?_) (fun y0 H=>?_))
   ·refine sr (va (B false) (wln (W.ret (bkr (thr ?_)))));obtain rfl:=si H;exact ⟨_,rfl,⟨rfl,jn D ⟨y,rfl⟩⟩⟩
   refine W.skip (bkn (nrm (W.region (va (I a) (vv (I (w64 (a+1))) (WL.nil ?_))))));obtain rfl:=si H;exact ⟨_,rfl,jn D ⟨y,rfl⟩⟩
  refine W.exit (thx ?_);obtain rfl:=si H;exact ⟨_,rfl,rfl,jn c8 ⟨u,rfl⟩⟩
 ·exact jn c0 ⟨O0,rfl⟩
 rcases h with h | h
 ·intro m0; revert m0;rintro _ U Z ⟨rfl,i0,s1,_,rfl,z1,rfl,g0,rfl⟩;refine bkr (thr ?_);obtain rfl:=si S;exact r1 (qq i0 ⟨g0,rfl⟩)
 rintro _ U Z ⟨rfl,j0,t1,_,rfl,b2,rfl,h0,rfl⟩;refine bke (nrm (sr (va (B true) (wln (W.ret ?_)))));obtain rfl:=si S;exact r1 (qq j0 ⟨h0,rfl⟩)
def aZ (p0:Int):Option (Bool):=
 (bj p0).bind fun a=>
 some (!a)
theorem dB (d:Own c0 G F) (a:Int) {r:Bool} (H:aZ a=some r): Calls prog 25 #[J a] c0.w (bu c0 fun c v=>Own c G (F)∧v=B r):=by
 unfold aZ at H;refine en func25 rfl rfl (sr (va (B false) (wln (sr (va (J a) (bn H fun b g H=>cl (dA d a g) ?_))))));rintro v7 f h ⟨e,rfl⟩;refine vv (B (!b)) (wln (W.ret ?_));obtain rfl:=si H;exact r1 (qq f ⟨e,rfl⟩)
def am (p0:List Int):Option (Int):=
 (bN (σ:=Int) (τ:=Int ⊕ Unit) (((p0.length:Int) - 0).toNat+1) (fun b=>
 if (decide (b < (p0.length:Int)))=true then
 (idx p0 b).bind fun c=>
 (aZ c).bind fun d=>
 if d=true then
 some (.inr (.inl b))
 else
 some (.inl ((w64 (b+1))))
 else
 some (.inr (.inr ()))) (0)).bind fun a=>
 match a with
 | .inl a=>
 some a
 | .inr a=>
 some (-1)
theorem bc (U:Own c0 G F) (d:List Int) {r:Int} (j:Sl (RI .i32) c0 v1 d) (H:am d=some r): Calls prog 27 #[v1,.func (.func 25) #[] #[]] c0.w (bu c0 fun c v=>Own c G (F)∧v=I r):=by
 unfold am at H;refine en func27 rfl rfl (sr (va (I 0) (wln (W.seq (sr (va (v1) (vx (ln 3 aV j) (va (I 0) (wln (W.block (bn H fun b N i=>lp N (fun a=>Jn c0 fun c l=>Own c G (F)∧l= [(0,v1),(1,.func (.func 25) #[] #[]),(7,I (d.length:Int)),(8,I a)]) (fun t=>match t with | .inl k=>(fun R ex e w=>ex= .ret∧(Jn c0 fun c l=>Own c G (F)∧l= [(4,I R)]) e w) k | .inr k=>(fun b0 ex e w=>ex= .exit 0∧(Jn c0 fun c l=>Own c G (F)∧l= []) e w) k) ?_ ?_ ?_)))))))))))
 ·clear i N;intro a j0 y T H;revert y T;rintro x S ⟨X,g6,_,rfl,Z,rfl,q,rfl⟩;refine sr (va (B (decide (a < (d.length:Int)))) (wln (W.seq (cn H (fun A H=>?_) (fun A H=>?_)))))
  ·refine W.skip (nrm (W.seq (W.block (sr (vv (I a) (wln (sr (va (.func (.func 25) #[] #[]) (va (v1) (va (I a) (bn H fun n h H=>?_)))))))))));obtain ⟨a0,D,P⟩:=Sl.at (j.mono Z) (aH h);obtain rfl:=D;refine vx (ix aV j.m h) (vx (l1 fG (P 0 _ rfl)) (bn H fun d0 E H=>cl (dB q n E) ?_));rintro v22 g g0 ⟨f,rfl⟩;refine wln (cn H (fun M H=>?_) (fun M H=>?_))
   ·refine sr (vv (I a) (wln (W.ret (bkr (thr ?_)))));obtain rfl:=si H;exact ⟨_,rfl,⟨rfl,jn g ⟨f,rfl⟩⟩⟩
   refine W.skip (bkn (nrm (W.region (vv (I (w64 (a+1))) (WL.nil ?_)))));obtain rfl:=si H;exact ⟨_,rfl,jn g ⟨f,rfl⟩⟩
  refine W.exit (thx ?_);obtain rfl:=si H;exact ⟨_,rfl,rfl,jn X ⟨q,rfl⟩⟩
 ·exact jn c0 ⟨U,rfl⟩
 rcases b with b | b
 ·intro z; revert z;rintro _ x S ⟨rfl,s,e0,_,rfl,h0,rfl,o,rfl⟩;refine bkr (thr ?_);obtain rfl:=si i;exact r1 (qq s ⟨o,rfl⟩)
 rintro _ x S ⟨rfl,u,f0,_,rfl,i0,rfl,p,rfl⟩;refine bke (nrm (sr (va (I (-1)) (wln (W.ret ?_)))));obtain rfl:=si i;exact r1 (qq u ⟨p,rfl⟩)
def ah (p0:List Int):Option (Bool):=
 (am p0).bind fun a=>
 some (decide (a≥0))
theorem aT (d:Own c0 G F) (b:List Int) {r:Bool} (g:Sl (RI .i32) c0 v1 b) (H:ah b=some r): Calls prog 24 #[v1,.func (.func 25) #[] #[]] c0.w (bu c0 fun c v=>Own c G (F)∧v=B r):=by
 unfold ah at H;refine en func24 rfl rfl (sr (va (B false) (wln (sr (va (v1) (va (.func (.func 25) #[] #[]) (bn H fun a h H=>cl (bc d b g h) ?_)))))));rintro v9 f i ⟨e,rfl⟩;refine vv (B (decide (a≥0))) (wln (W.ret ?_));obtain rfl:=si H;exact r1 (qq f ⟨e,rfl⟩)
def br (p0:aa):Option (Bool):=
 (if (p0.Kind==0)=true then
 some (p0.Kind==0)
 else
 some (p0.Kind==3)).bind fun e=>
 if e=true then
 some ((p0.Text.length:Int)==0)
 else
 (if (p0.Kind==1)=true then
 some (p0.Kind==1)
 else
 some (p0.Kind==2)).bind fun d=>
 if d=true then
 (ce (decide ((p0.Text.length:Int) > 0)) (some (decide ((p0.Text.length:Int)≤16)))).bind fun a=>
 (ce a ((ah p0.Text).bind fun c=>
 some (!c))).bind fun b=>
 some b
 else
 some false
theorem dU (O0:Own c0 G F) (a:aa) {r:Bool} (s:Sl (RI .i32) c0 v1 a.Text) (H:br a=some r): Calls prog 22 #[.agg #[I a.Kind,v1]] c0.w (bu c0 fun c v=>Own c G (F)∧v=B r):=by
 unfold br at H;refine en func22 rfl rfl (sr ?_);obtain ⟨a3,a4,a5,rfl⟩:=(s).form;refine me (bx 27 [I a.Kind,.slice a3 a4 a5] O0) ?_;rintro v10 z l9 ⟨i,rfl,P,u⟩;refine va (B false) (wln (W.seq (sr (va (Q i) (vx (l1 u_3 (u 0 _ rfl)) (wln (W.block (bn H fun e0 d e=>W.seqJ (Jn z fun c l=>Own c G (F)∧l= [(1,Q i),(4,I a.Kind),(5,B e0)]) ?_ ?_))))))))
 ·refine sr (vv (B (a.Kind==0)) (wln (cn d (fun U d=>?_) (fun U d=>?_))))
  ·refine W.skip (nrm ?_);obtain rfl:=si d;exact jn z ⟨P,rfl⟩
  refine W.region (vv (B (a.Kind==3)) (wln ?_));obtain rfl:=si d;exact jn z ⟨P,rfl⟩
 rintro T w_ ⟨n,k0,_,rfl,o0,rfl,q,rfl⟩;refine cn e (fun X e=>?_) (fun X e=>?_)
 ·refine sr (va (Qo i (0+1)) (vx (l1 aV ((mm u) 1 _ rfl)) (vx (ln 3 aV s.m) (vv (B ((a.Text.length:Int)==0)) (wln (W.ret (bkr (thr ?_))))))));obtain rfl:=si e;exact r1 (qq n ⟨q,rfl⟩)
 refine bn e fun D f b=>W.seqJ (Jn n fun c l=>Own c G (F)∧l= [(1,Q i),(12,B D)]) ?_ ?_
 ·refine sr (vv (B (a.Kind==1)) (wln (cn f (fun Z f=>?_) (fun Z f=>?_))))
  ·refine W.skip (nrm ?_);obtain rfl:=si f;exact jn n ⟨q,rfl⟩
  refine W.region (vv (B (a.Kind==2)) (wln ?_));obtain rfl:=si f;exact jn n ⟨q,rfl⟩
 rintro T w_ ⟨o,l0,_,rfl,q0,rfl,k,rfl⟩;refine cn b (fun a0 b=>?_) (fun a0 b=>?_)
 ·refine W.seq (bn b fun j0 x b=>bn b fun A t b=>W.join (Jn o fun c l=>Own c G (F)∧l= [(2,B A)]) ?_ ?_)
  ·clear b;refine W.region (va (Qo i (0+1)) (vx (l1 aV ((mm u) 1 _ rfl)) (vx (ln 3 aV s.m) (va (B (decide ((a.Text.length:Int) > 0))) ?_))));rcases bo (decide ((a.Text.length:Int) > 0)) with g | g
   ·have E:=anT g x;refine vb g (wa (Qo i (0+1)) (wn (vx (l1 aV ((mm u) 1 _ rfl)) (wn (vx (ln 3 aV s.m) (wa (B (decide ((a.Text.length:Int)≤16))) ?_))))));obtain rfl:=si E;refine va (B (decide ((a.Text.length:Int)≤16))) ?_;rcases bo (decide ((a.Text.length:Int)≤16)) with h | h
    ·have p:=anT h t;refine vb h (wa (Qo i (0+1)) (wn (vx (l1 aV ((mm u) 1 _ rfl)) (wn (bn p fun j b0 p=>cl (aT k a.Text s.m b0) ?_)))));rintro v43 R s0 ⟨M,rfl⟩;refine wa (B (!j)) ?_;obtain rfl:=si p;exact vv (B (!j)) (wln (jn R ⟨M,rfl⟩))
    obtain rfl:=anF h t;exact vb h (pz (pz (vv (B false) (wln (jn o ⟨k,rfl⟩)))))
   obtain rfl:=anF g x;refine vb g (pz (pz (va (B false) ?_)));have y:false=false:=rfl;obtain rfl:=anF y t;exact vb y (pz (pz (vv (B false) (wln (jn o ⟨k,rfl⟩)))))
  rintro T w_ ⟨S,m0,_,rfl,t0,rfl,N,rfl⟩;refine nrm (W.ret (bkr (thr ?_)));obtain rfl:=si b;exact r1 (qq S ⟨N,rfl⟩)
 refine W.skip (bkn (nrm (sr (va (B false) (wln (W.ret ?_))))));obtain rfl:=si b;exact r1 (qq o ⟨k,rfl⟩)
def bq (p0:List aa):Option (Bool):=
 (bN (σ:=Bool×Int) (τ:=Bool ⊕ Bool) (((p0.length:Int) - 0).toNat+1) (fun b=>
 if (decide (b.2 < (p0.length:Int)))=true then
 (idx p0 b.2).bind fun c=>
 (br c).bind fun e=>
 (orE (!e) (some (!(b.1==(c.Kind==3))))).bind fun d=>
 if d=true then
 some (.inr (.inl false))
 else
 some (.inl (c.Kind==2,(w64 (b.2+1))))
 else
 some (.inr (.inr (b.1)))) (false,0)).bind fun a=>
 match a with
 | .inl a=>
 some a
 | .inr a=>
 some (!a)
theorem cX (O0:Own c0 G F) (p:List aa) {r:Bool} (M:Sl ac c0 v1 p) (H:bq p=some r): Calls prog 15 #[v1] c0.w (bu c0 fun c v=>Own c G (F)∧v=B r):=by
 unfold bq at H;refine en func15 rfl rfl (sr (va (B false) (wln (sr (va (B false) (wln (W.seq (sr (va (v1) (vx (ln 3 aO M) (va (I 0) (wln (W.block (bn H fun d h3 A=>lp h3 (fun b=>Jn c0 fun c l=>Own c G (F)∧l= [(3,B b.1),(6,v1),(7,I (p.length:Int)),(8,I b.2)]) (fun t=>match t with | .inl R=>(fun s0 ex e w=>ex= .ret∧(Jn c0 fun c l=>Own c G (F)∧l= [(2,B s0)]) e w) R | .inr R=>(fun N ex e w=>ex= .exit 0∧(Jn c0 fun c l=>Own c G (F)∧l= [(3,B N)]) e w) R) ?_ ?_ ?_))))))))))))))
 ·clear A h3;intro b h1 g0 t0 H;revert g0 t0;rintro E P ⟨c5,g6,_,rfl,l5,rfl,O7,rfl⟩;refine sr (va (B (decide (b.2 < (p.length:Int)))) (wln (W.seq (cn H (fun i0 H=>?_) (fun i0 H=>?_)))))
  ·refine W.skip (nrm (W.seq (W.block (sr (bn H fun a y H=>?_)))));obtain ⟨x0,j0,q0⟩:=Sl.at (M.mono l5) (aH y);obtain ⟨v16,rfl,o⟩:=j0;refine vx (ix aO M.m y) (vx (lN 27 q0) (me (al 27 [I 0,Y] O7) ?_));rintro v21 y0 o0 ⟨g,rfl,T⟩;obtain ⟨j,k,n,rfl⟩:=((o.mono o0)).form;refine md (sA 27 [I a.Kind,.slice j k n] 0 T ⟨rfl,o.m.one,trivial⟩) ?_;rintro d0 c1 s;refine wln (W.seq (W.seq (bn H fun q k0 H=>bn H fun D z H=>W.join (Jn d0 fun c l=>Own c G ((Eb g 27 [I a.Kind,.slice j k n]) :: F)∧l= [(5,Q g),(6,v1),(7,I (p.length:Int)),(8,I b.2),(21,B D)]) ?_ ?_)))
   ·clear H;refine W.region (vx (leN 27 0 [I a.Kind,.slice j k n] (s.on 0 rfl)) (cl (dU s a o.m k0) ?_));rintro v34 u d1 ⟨h,rfl⟩;refine va (B (!q)) ?_;rcases bo (!q) with f | f
    ·obtain rfl:=orT f z;exact vb f (pz (pz (ps (va (B true) (wln (jn u ⟨h,rfl⟩))))))
    have S:=orF f z;refine vb f (wa (B b.1) (wa (Q g) (wn (vx (le1 0 u_3 (h.on 0 rfl)) (wa (B (a.Kind==3)) (wa (B (!(b.1==(a.Kind==3)))) ?_))))));obtain rfl:=si S;exact va (B (!(b.1==(a.Kind==3)))) (wln (jn u ⟨h,rfl⟩))
   rintro E P ⟨x,z0,_,rfl,e1,rfl,i,rfl⟩;refine nrm (cn H (fun m0 H=>?_) (fun m0 H=>?_))
   ·refine sr (va (B false) (wln (W.ret (thr (bkr (thr ?_))))));obtain rfl:=si H;refine ⟨_,rfl,⟨rfl,?_⟩⟩;have U:=i.sD 1 [];exact jn x ⟨U,rfl⟩
   refine W.skip (nrm (W.region (va (Q g) (vx (le1 0 u_3 (i.on 0 rfl)) (vv (B (a.Kind==2)) (WL.nil (bkn (nrm (W.region (vv (I (w64 (b.2+1))) (WL.nil ?_)))))))))));obtain rfl:=si H;refine ⟨_,rfl,?_⟩;have X:=i.sD 1 [];exact jn x ⟨X,rfl⟩
  refine W.exit (thx ?_);obtain rfl:=si H;exact ⟨_,rfl,rfl,jn c5 ⟨O7,rfl⟩⟩
 ·exact jn c0 ⟨O0,rfl⟩
 rcases d with d | d
 ·intro h0; revert h0;rintro _ E P ⟨rfl,e0,a1,_,rfl,f1,rfl,Z,rfl⟩;refine bkr (thr ?_);obtain rfl:=si A;exact r1 (qq e0 ⟨Z,rfl⟩)
 rintro _ E P ⟨rfl,f0,b1,_,rfl,g1,rfl,a0,rfl⟩;refine bke (nrm (sr (va (B d) (vv (B (!d)) (wln (W.ret ?_))))));obtain rfl:=si A;exact r1 (qq f0 ⟨a0,rfl⟩)
def bw (p0:Int):Option (List aa):=
 (rep (dT 0 (et p0 1024)) (⟨0,([]:List Int)⟩:aa)).bind fun a=>
 some a
theorem dJ (f:Own c0 G F) (a:Int) {r:List aa} (H:bw a=some r): Calls prog 18 #[I a] c0.w (bu c0 fun c v=>∃b e,Own c G (es true ac b 27 e r :: F)∧v=b∧OA ac c b e r):=by
 unfold bw at H;refine en func18 rfl rfl (sr (va (Y) (wln (sr (va (I a) (va (I (et a 1024)) (va (I (dT 0 (et a 1024))) (bn H fun m d H=>me (Own.mkS (kl:= .i64) (kc:= .i64) (R:=ac) (z:= .agg #[I 0,Y]) (lz:=[I 0,Y]) (x:=(⟨0,([]:List Int)⟩:aa)) (by_:=32) (i:=(dT 0 (et a 1024))) (j:=(dT 0 (et a 1024))) true f (bJ _) d (Int.le_refl _) (gl d) aO (by kernel_rfl) rfl rfl (fun _=>⟨(Y),rfl,(Sl.nl _ _)⟩) (by kernel_rfl) (by kernel_rfl)) ?_))))))));rintro v6 h n ⟨l,g,k⟩;refine va (v6) (wln (W.ret ?_));obtain rfl:=si H;exact r1 (qq h ⟨v6,l,g,rfl,k⟩)
def bV (sg:Sto) (p0:Int):Option (Sto×(Option Nat)):=
 (bw (dT 1 p0)).bind fun b=>
 (some (sg.add_row_Row (⟨b,false⟩:az))).bind fun a=>
 some (a,(some sg.row_Row.length))
theorem dO (N:Own c0 G F) (R:Rel c0 sg G) (g:Int) {r:Sto×(Option Nat)} (H:bV sg g=some r): Calls prog 10 #[I g] c0.w (bu c0 fun c v=>∃M,∃G_:Gm,Own c G_ (F)∧Rel c r.1 G_∧bT G G_∧v=M∧Pt 0 c M r.2):=by
 unfold bV at H;refine en func10 rfl rfl (sr (va (.pointer none) (wln (sr (va (I g) (va (I (dT 1 g)) (bn H fun j S H=>cl (dJ N (dT 1 g) S) ?_)))))));rintro v2 c9 T ⟨_,D,P,rfl,z⟩;obtain ⟨d,e,f,rfl⟩:=(z).form;refine va (.agg #[.slice d e f,B false]) (me (al 45 [.slice d e f,B false] P) ?_);rintro v17 U l16 ⟨a,rfl,l⟩;have m:=l.sD 2 [0,1];refine bn H fun A q H=>?_;obtain ⟨i,k,s,a0,t,n,h,X,u,o⟩:=Rel.new_row_Row (E:=[(Eb a 45 [.slice d e f,B false]),es true ac (.slice d e f) 27 D j]) (F:=F) (x:=(⟨j,false⟩:az)) (b:=a) m (R.mono (T.trans l16)) (fun c_ hle_=>⟨a,(.slice d e f),D,rfl,rfl,((z.mono l16).mono hle_)⟩);rw [ag q] at h;refine WL.gh s.1 ?_;have Z:=bT.nil (bT.refl _) u;have p:=(bT.refl _).trans o;have y:Pt 0 i (Q a) (some sg.row_Row.length):=⟨a,rfl,t⟩;refine va (Q a) (wln (W.ret ?_));obtain rfl:=si H;exact r1 (qq i ⟨(Q a),k,n,h,p,rfl,y⟩)
def bA (p0:aa):Option (aa):=
 (bE p0.Text).bind fun a=>
 some (⟨p0.Kind,a⟩:aa)
theorem cj (E:Own c0 G F) (a:aa) {r:aa} (t:Sl (RI .i32) c0 v1 a.Text) (H:bA a=some r): Calls prog 16 #[.agg #[I a.Kind,v1]] c0.w (bu c0 fun c v=>∃i D,Own c G (es true (RI .i32) i 21 D r.Text :: F)∧v= .agg #[I r.Kind,i]∧OA (RI .i32) c i D r.Text):=by
 unfold bA at H;refine en func16 rfl rfl (sr ?_);obtain ⟨N,P,R,rfl⟩:=(t).form;refine me (bx 27 [I a.Kind,.slice N P R] E) ?_;rintro v10 c9 l9 ⟨o,rfl,M,x⟩;refine me (al 27 [I 0,Y] M) ?_;rintro v14 U X ⟨T,rfl,j⟩;refine wln (W.seq (rD [] (Kp G0 []) j ?_));intro p Z k;have d0:Kp G0 [] p:=Kp.nil0;refine ta 0 (Q o) (tx 1 (fun S u=>l1 u_3 ((mm x) 0 _ rfl)) (ta 2 (Qo o (0+1)) (tx 3 (fun S u=>l1 aV ((mm x) 1 _ rfl)) (bn H fun e0 s H=>o1 4 (gc 4 (dz k a.Text t.m s) ?_)))));rintro v19 q a0 ⟨_,A,l,rfl,g⟩;have y:Kp G0 [] q:=Kp.nil0;refine ⟨.inr y,?_⟩;obtain ⟨b,d,e,rfl⟩:=(g).form;refine ta 5 (.agg #[I a.Kind,.slice b d e]) (o1 6 (gD 6 (sA 27 [I a.Kind,.slice b d e] 1 l ⟨rfl,(g).one,trivial⟩) ?_));rintro f b0 h;have z:Kp G0 [] f:=Kp.nil0;refine ⟨.inr z,dn (nrm (W.ret ?_))⟩;obtain rfl:=si H;have n:=h.sD 2 [0];exact gU (c:=f) (vs:=[I a.Kind,.slice b d e]) rfl (by kernel_rfl) (by kernel_rfl) (by kernel_rfl) (h.on 1 rfl _ rfl).1 ⟨_,f,rfl,rfl,pt,(.slice b d e),A,n,rfl,g.m⟩
def bG (sg:Sto) (p0:List aa):Option (Sto×(Option Nat)×Er):=
 (orE ((p0.length:Int)==0) (some (decide ((p0.length:Int) > 1024)))).bind fun k=>
 if k=true then
 some (sg,(none:Option Nat),(Er.sent 0))
 else
 (bq p0).bind fun h=>
 if (!h)=true then
 some (sg,(none:Option Nat),(Er.sent 1))
 else
 (bV sg (p0.length:Int)).bind fun c=>
 (bN (σ:=Int×Sto) (τ:=Sto) (((p0.length:Int) - 0).toNat+1) (fun a=>
 if (decide (a.1 < (p0.length:Int)))=true then
 (idx p0 a.1).bind fun i=>
 (c.2).bind fun e=>
 (a.2.row_Row[e]?).bind fun b=>
 (bA i).bind fun j=>
 (idx b.cells a.1).bind fun l=>
 (cJ b.cells a.1 j).bind fun g=>
 (a.2.set_row_Row e (⟨g,b.wrap⟩:az)).bind fun d=>
 some (.inl ((w64 (a.1+1)),d))
 else
 some (.inr (a.2))) (0,c.1)).bind fun f=>
 some (f,c.2,Er.nil)
def aL (sg:Sto) (p0:Option Nat):Option (Int):=
 if p0.isNone=true then
 some 0
 else
 (p0).bind fun b=>
 (sg.row_Row[b]?).bind fun a=>
 some (a.cells.length:Int)
theorem bk (d:Own c0 G F) (k:Rel c0 sg G) (f:Option Nat) {r:Int} (j:Pt 0 c0 v1 f) (H:aL sg f=some r): Calls prog 12 #[v1] c0.w (bu c0 fun c v=>Own c G (F)∧v=I r):=by
 unfold aL at H;refine en func12 rfl rfl (sr (va (I 0) (wln (W.seq (sr (va (v1) (vr (B f.isNone) (by rcases (j).cs with ⟨a,b⟩ | ⟨q,a,b⟩ <;> (subst a; rw [b]; kernel_rfl)) (wln (cn H (fun l H=>?_) (fun l H=>?_))))))))))
 ·refine sr (va (I 0) (wln (W.ret (thr ?_))));obtain rfl:=si H;exact r1 (qq c0 ⟨d,rfl⟩)
 refine W.skip (nrm (sr (va (v1) (bn H fun p n H=>?_))));obtain ⟨g,rfl,m⟩:=(j).get n;refine vv (Q g) (bn H fun e o H=>?_);obtain ⟨v8,s,i,h⟩:=Rel.open_row_Row k o m;refine vx (le1 0 aO (d.gon i 0 rfl)) (vx (lnO 3 aO h) (va (I (e.cells.length:Int)) (wln (W.ret ?_))));obtain rfl:=si H;exact r1 (qq c0 ⟨d,rfl⟩)
def aC (sg:Sto) (p0:Option Nat):Option (List aa):=
 (aL sg p0).bind fun b=>
 (bN (σ:=(List aa)×Int) (τ:=(List aa)) ((b - 0).toNat+1) (fun a=>
 if (decide (a.2 < b))=true then
 (p0).bind fun c=>
 (sg.row_Row[c]?).bind fun d=>
 (idx d.cells a.2).bind fun e=>
 (bA e).bind fun f=>
 (app a.1 ([f]:List aa)).bind fun g=>
 some (.inl (g,(w64 (a.2+1))))
 else
 some (.inr (a.1))) (([]:List aa),0)).bind fun h=>
 some h
theorem ct (O0:Own c0 G F) (R0:Rel c0 sg G) (M:Option Nat) {r:List aa} (h2:Pt 0 c0 v1 M) (H:aC sg M=some r): Calls prog 7 #[v1] c0.w (bu c0 fun c v=>∃N y2,Own c G (es true ac N 27 y2 r :: F)∧v=N∧OA ac c N y2 r):=by
 unfold aC at H;refine en func7 rfl rfl (sr (va (Y) (wln (sr (va (Y) (wln (W.seq (sr (va (v1) (bn H fun E h3 H=>cl (bk O0 R0 M h2 h3) ?_))))))))));rintro v9 o l8 ⟨O5,rfl⟩;refine va (I 0) (wln (W.block (bn H fun j2 x p=>lp x (fun a=>Jn o fun c l=>∃v12 f,Own c G (es true ac v12 27 f a.1 :: F)∧l= [(0,v1),(3,v12),(6,I E),(7,I a.2)]∧OA ac c v12 f a.1) (fun k ex e w=>ex= .exit 0∧(Jn o fun c l=>∃v14 g,Own c G (es true ac v14 27 g k :: F)∧l= [(3,v14)]∧OA ac c v14 g k) e w) ?_ ?_ ?_)))
 ·clear p x;intro a n2 h0 f1 H;revert h0 f1;rintro e_ w_ ⟨e0,z1,_,rfl,l16,rfl,v12,f,d,rfl,y⟩;refine sr (va (B (decide (a.2 < E))) (wln (W.seq (cn H (fun j0 H=>?_) (fun j0 H=>?_)))))
  ·refine W.skip (nrm (W.seq (W.block (sr (vv (I a.2) (wln (W.region (va (v12) (va (v1) (bn H fun m1 l0 H=>?_))))))))));obtain ⟨u,rfl,k0⟩:=((h2.mono (l8.trans l16))).get l0;refine vv (Q u) (bn H fun p1 m0 H=>?_);obtain ⟨v28,k2,z,h⟩:=Rel.open_row_Row (R0.mono (l8.trans l16)) m0 k0;refine vx (le1 0 aO (d.gon z 0 rfl)) (va (I a.2) (bn H fun b i H=>vx (ixO aO h i) ?_));obtain ⟨n1,o0,d1⟩:=OA.at h i;obtain ⟨v36,rfl,q0⟩:=o0;refine vr (.agg #[I b.Kind,v36]) (rx (by kernel_rfl) (fU (T:=27) (l:=[I b.Kind,v36]) (by kernel_rfl) (by kernel_rfl) (d.gon z 1 rfl) (h.blk i) (at2 (j:=0) d1 rfl))) (bn H fun n s0 H=>cl (cj d b q0 s0) ?_);rintro v47 t1 c2 ⟨v39,l2,P,rfl,t0⟩;obtain ⟨u1,u0,d2,R,A⟩:=P.frz 0 rfl t0;refine WL.gh u0 ?_;obtain ⟨q,s,t,rfl⟩:=(A).form;refine me (sl ac 27 [[I n.Kind,.slice q s t]] ([n]:List aa) R ⟨⟨(.slice q s t),rfl,A⟩,trivial⟩) ?_;rintro v59 w1 e2 ⟨m2,S,v0⟩;obtain ⟨x1,x0,f2,U,w0⟩:=S.frz 0 rfl v0;refine WL.gh x0 (bn H fun s1 y0 H=>me (ap ac (.agg #[I 0,Y]) 32 22 2 U y.m w0 y0 aO) ?_);rintro D f0 g2 ⟨e1,X,z0⟩;refine va (D) (WL.nil (bkn (nrm (W.region (vv (I (w64 (a.2+1))) (WL.nil ?_))))));obtain rfl:=si H;refine ⟨_,rfl,?_⟩;have Z:=X.sD 3 [2];exact jn f0 ⟨D,e1,Z,rfl,z0⟩
  refine W.exit (thx ?_);obtain rfl:=si H;exact ⟨_,rfl,rfl,jn e0 ⟨v12,f,d,rfl,y⟩⟩
 ·have a1:OA ac o (Y) [] []:=OA.nil (bJ _);have a0:=O5.addHole (e:=es true ac (Y) 27 [] ([]:List aa)) rfl;exact jn o ⟨(Y),[],a0,rfl,a1⟩
 rintro _ e_ w_ ⟨rfl,g0,b2,_,rfl,i2,rfl,v14,g,b0,rfl,b1⟩;refine bke (nrm (sr (vv (v14) (wln (W.ret ?_)))));obtain rfl:=si p;exact r1 (qq g0 ⟨v14,g,b0,rfl,b1⟩)
def aY (sg:Sto) (p0:Option Nat) (p1:Int):Option (aa×Bool):=
 (orE (decide (p1 < 0)) ((aL sg p0).bind fun c=>
 some (decide (p1≥c)))).bind fun f=>
 if f=true then
 some ((⟨0,([]:List Int)⟩:aa),false)
 else
 (p0).bind fun a=>
 (sg.row_Row[a]?).bind fun b=>
 (idx b.cells p1).bind fun d=>
 (bA d).bind fun e=>
 some (e,true)
theorem cC (O0:Own c0 G F) (Z:Rel c0 sg G) (E:Option Nat) (a:Int) {r:aa×Bool} (h2:Pt 0 c0 v1 E) (H:aY sg E a=some r): Calls prog 8 #[v1,I a] c0.w (bu c0 fun c v=>∃M y2,Own c G (es true (RI .i32) M 21 y2 r.1.Text :: F)∧v= .tuple #[.agg #[I r.1.Kind,M],B r.2]∧OA (RI .i32) c M y2 r.1.Text):=by
 unfold aY at H;refine en func8 rfl rfl (sr (me (al 27 [I 0,Y] O0) ?_));rintro v6 c5 l5 ⟨b3,rfl,S⟩;refine va (B false) (wln (W.seq (W.seq (bn H fun e0 h7 H=>W.join (Jn c5 fun c l=>Own c G ((Eb b3 27 [I 0,Y]) :: F)∧l= [(0,v1),(1,I a),(4,Q b3),(13,B e0)]) ?_ ?_))))
 ·clear H;refine W.region (va (I a) (va (B (decide (a < 0))) ?_));rcases bo (decide (a < 0)) with p | p
  ·obtain rfl:=orT p h7;exact vb p (pz (pz (va (B true) (wln (jn c5 ⟨S,rfl⟩)))))
  have D:=orF p h7;refine vb p (wa (I a) (wa (v1) (wn (bn D fun q f0 D=>cl (bk S Z.m E h2.m f0) ?_))));rintro v16 b0 e1 ⟨N,rfl⟩;refine wa (B (decide (a≥q))) ?_;obtain rfl:=si D;exact va (B (decide (a≥q))) (wln (jn b0 ⟨N,rfl⟩))
 rintro e_ w_ ⟨b1,d1,_,rfl,A,rfl,d,rfl⟩;refine nrm (cn H (fun h0 H=>?_) (fun h0 H=>?_))
 ·refine sr (va (.agg #[I 0,Y]) (md (sA 27 [I 0,Y] 0 d ⟨rfl,rfl,trivial⟩) ?_));rintro i f1 P;refine va (B false) (wln (W.ret (thr ?_)));obtain rfl:=si H;have i0:OA (RI .i32) i (Y) [] []:=OA.nil (bJ _);have t:=P.addHole (e:=es true (RI .i32) (Y) 21 [] ([]:List Int)) rfl;have R:=t.sD 2 [0];exact ge (c:=i) (vs:=[I 0,Y]) (v:=B false) rfl (by kernel_rfl) (by kernel_rfl) (by kernel_rfl) (by kernel_rfl) (t.on 1 rfl _ rfl).1 ⟨_,i,rfl,rfl,pt,(Y),[],R,rfl,i0⟩
 refine W.skip (nrm (sr (va (v1) (bn H fun y0 k0 H=>?_))));obtain ⟨x,rfl,j0⟩:=((h2.mono (l5.trans A))).get k0;refine vv (Q x) (bn H fun a1 l0 H=>?_);obtain ⟨v33,i1,z,k⟩:=Rel.open_row_Row (Z.mono (l5.trans A)) l0 j0;refine vx (le1 0 aO (d.gon z 0 rfl)) (va (I a) (bn H fun b n H=>vx (ixO aO k n) ?_));obtain ⟨z0,m0,u0⟩:=OA.at k n;obtain ⟨v41,rfl,o0⟩:=m0;refine vr (.agg #[I b.Kind,v41]) (rx (by kernel_rfl) (fU (T:=27) (l:=[I b.Kind,v41]) (by kernel_rfl) (by kernel_rfl) (d.gon z 1 rfl) (k.blk n) (at2 (j:=0) u0 rfl))) (bn H fun s q0 H=>cl (cj d b o0 q0) ?_);rintro v52 c1 g1 ⟨v44,v0,U,rfl,o⟩;obtain ⟨f,g,h,rfl⟩:=(o).form;refine md (sA 27 [I s.Kind,.slice f g h] 1 U ⟨rfl,(o).one,trivial⟩) ?_;rintro y h1 u;refine va (B true) (wln (W.ret ?_));obtain rfl:=si H;have X:=u.sD 2 [0];exact ge (c:=y) (vs:=[I s.Kind,.slice f g h]) (v:=B true) rfl (by kernel_rfl) (by kernel_rfl) (by kernel_rfl) (by kernel_rfl) (u.on 1 rfl _ rfl).1 ⟨_,y,rfl,rfl,pt,(.slice f g h),v0,X,rfl,o.m⟩
def bF (sg:Sto) (p0:Option Nat) (p1:Int):Option (Int):=
 (orE (decide (p1 < 0)) ((aL sg p0).bind fun e=>
 some (decide (p1≥e)))).bind fun d=>
 if d=true then
 some 0
 else
 (p0).bind fun a=>
 (sg.row_Row[a]?).bind fun b=>
 (idx b.cells p1).bind fun c=>
 some c.Kind
theorem cB (q:Own c0 G F) (s:Rel c0 sg G) (p:Option Nat) (a:Int) {r:Int} (y:Pt 0 c0 v1 p) (H:bF sg p a=some r): Calls prog 19 #[v1,I a] c0.w (bu c0 fun c v=>Own c G (F)∧v=I r):=by
 unfold bF at H;refine en func19 rfl rfl (sr (va (I 0) (wln (W.seq (W.seq (bn H fun u E H=>W.join (Jn c0 fun c l=>Own c G (F)∧l= [(0,v1),(1,I a),(12,B u)]) ?_ ?_))))))
 ·clear H;refine W.region (va (I a) (va (B (decide (a < 0))) ?_));rcases bo (decide (a < 0)) with f | f
  ·obtain rfl:=orT f E;exact vb f (pz (pz (va (B true) (wln (jn c0 ⟨q,rfl⟩)))))
  have o:=orF f E;refine vb f (wa (I a) (wa (v1) (wn (bn o fun n R o=>cl (bk q s p y R) ?_))));rintro v12 t a0 ⟨P,rfl⟩;refine wa (B (decide (a≥n))) ?_;obtain rfl:=si o;exact va (B (decide (a≥n))) (wln (jn t ⟨P,rfl⟩))
 rintro e_ w_ ⟨i,X,_,rfl,m,rfl,b,rfl⟩;refine nrm (cn H (fun x H=>?_) (fun x H=>?_))
 ·refine sr (va (I 0) (wln (W.ret (thr ?_))));obtain rfl:=si H;exact r1 (qq i ⟨b,rfl⟩)
 refine W.skip (nrm (sr (va (v1) (bn H fun S A H=>?_))));obtain ⟨h,rfl,z⟩:=((y.mono m)).get A;refine vv (Q h) (bn H fun U D H=>?_);obtain ⟨v24,b0,k,d⟩:=Rel.open_row_Row (s.mono m) D z;refine vx (le1 0 aO (b.gon k 0 rfl)) (va (I a) (bn H fun g e H=>vx (ixO aO d e) (va (Qo (sb v24) (a.toNat * 2)) ?_)));obtain ⟨T,M,N⟩:=OA.at d e;obtain ⟨v32,rfl,Z⟩:=M;refine vr (I g.Kind) (rx (by kernel_rfl) (fV u_3 rfl (b.gon k 1 rfl) (d.blk e) (at1 (j:=0) N rfl))) (va (I g.Kind) (wln (W.ret ?_)));obtain rfl:=si H;exact r1 (qq i ⟨b,rfl⟩)
def bv (sg:Sto) (p0:Option Nat) (p1:Int) (p2:aa):Option (Sto):=
 (p0).bind fun d=>
 (sg.row_Row[d]?).bind fun e=>
 (bA p2).bind fun f=>
 (idx e.cells p1).bind fun g=>
 (cJ e.cells p1 f).bind fun b=>
 (sg.set_row_Row d (⟨b,e.wrap⟩:az)).bind fun a=>
 if (p1==(w64 ((b.length:Int) - 1)))=true then
 (a.set_row_Row d (⟨b,false⟩:az)).bind fun c=>
 some c
 else
 some a
theorem cb (O0:Own c0 G F) (R0:Rel c0 sg G) (p0:Option Nat) (o:Int) (p:aa) {r:Sto} (h2:Pt 0 c0 v1 p0) (h4:Sl (RI .i32) c0 v3 p.Text) (H:bv sg p0 o p=some r): Calls prog 20 #[v1,I o,.agg #[I p.Kind,v3]] c0.w (bu c0 fun c v=>∃G_:Gm,Own c G_ (F)∧Rel c r G_∧v= .tuple #[]):=by
 unfold bv at H;refine en func20 rfl rfl (sr ?_);obtain ⟨a5,a6,a7,rfl⟩:=(h4).form;refine me (bx 27 [I p.Kind,.slice a5 a6 a7] O0) ?_;rintro v12 b2 l ⟨b8,rfl,O9,f1⟩;refine wln (W.seq (rD [8] (Kp G []) O9 ?_));intro k0 n s;have i1:Kp G [] k0:=(Kp.nil s);refine ta 0 (v1) (bn H fun d2 s0 H=>?_);obtain ⟨a,rfl,i⟩:=((h2.mono (l.trans n))).get s0;refine ta 1 (Q a) (ta 2 (Q a) (bn H fun g1 t0 H=>?_));obtain ⟨v20,e2,A,z⟩:=Rel.open_row_Row (R0.mono (l.trans n)) t0 i;refine tkx 3 i1 (fun c' E hk=>le1 0 aO (hk.gon A 0 rfl)) (ta 4 (I o) (tx 5 (fun c' E=>lN 27 (mm f1)) (bn H fun q u0 H=>o1 6 (gc 6 (cj s p h4.m u0) ?_))));rintro v33 l0 d1 ⟨v25,f2,t,rfl,v0⟩;have j1:Kp G [] l0:=(Kp.nil t);refine ⟨.inr j1,bn H fun x1 w0 H=>tx 7 (fun c' E=>ixO aO z.m w0) ?_⟩;obtain ⟨m0,x0,M,x,j⟩:=t.frz 0 rfl v0;have k1:Kp G [] m0:=(Kp.nil x);refine AC.gh x0 M (fun _=>k1) ?_;obtain ⟨f,g,h,rfl⟩:=(j).form;have Z:=x.borrow 1 A rfl;refine bn H fun b z0 H=>o1 8 (gD 8 (Own.stW (R:=ac) (T:=27) (us:=[I q.Kind,.slice f g h]) (x':=q) (u:= .agg #[I q.Kind,.slice f g h]) 0 Z (by kernel_rfl) rfl z.m z0 rfl (by kernel_rfl) ⟨rfl,j.one,trivial⟩ rfl ⟨(.slice f g h),rfl,j⟩) ?_);rintro o0 e1 ⟨d,a0,k⟩;have b0:=a0.giveB 1 rfl;refine bn H fun P a1 H=>?_;obtain ⟨U,e,y,D,y1⟩:=Rel.put_row_Row b0 (R0.mono (l.trans (n.trans (d1.trans (M.trans e1))))) (E':=[(Eb a 45 [v20,B g1.wrap]),es true ac v20 27 d b]) a1 ⟨a,v20,d,(tm i),rfl,k⟩;refine ⟨.inl rfl,dn (nrm (sr (va (I o) (vv (Q a) (va (Q a) (vx (le1 0 aO (e.gon D 0 rfl)) (vx (lnO 3 aO k) (va (I (w64 ((b.length:Int) - 1))) (va (B (o==(w64 ((b.length:Int) - 1)))) (wln (cn H (fun b1 H=>?_) (fun b1 H=>?_))))))))))))⟩
 ·refine W.region (vv (Q a) (va (Qo a 1) (md (gC 4 1 (B false) [v20,B false] 0 e D ⟨rfl,trivial⟩) ?_)));rintro q0 N d0;refine bn H fun S c1 H=>?_;obtain ⟨X,e0,i0,c2,z1⟩:=Rel.put_row_Row d0 (y.mono N) (E':=[(Eb a 45 [v20,B false]),es true ac v20 27 d b]) c1 ⟨a,v20,d,(tm i),rfl,(k.mono N)⟩;refine WL.nil ?_;obtain rfl:=si H;have f0:=e0.sD 1 [];exact n0 (qq q0 ⟨X,f0,i0,rfl⟩)
 refine W.skip ?_;obtain rfl:=si H;have g0:=e.sD 1 [];exact n0 (qq o0 ⟨U,g0,y,rfl⟩)
def bz (sg:Sto) (p0:Option Nat) (p1:Int) (p2:List aa):Option (Sto×Er):=
 (orE p0.isNone (some (decide (p1 < 0)))).bind fun q=>
 (orE q ((p0).bind fun d=>
 (sg.row_Row[d]?).bind fun f=>
 some (decide (p1 > (f.cells.length:Int))))).bind fun r=>
 (orE r ((p0).bind fun e=>
 (sg.row_Row[e]?).bind fun g=>
 some (decide ((p2.length:Int) > (w64 ((g.cells.length:Int) - p1)))))).bind fun c=>
 if c=true then
 some (sg,(Er.sent 0))
 else
 (bq p2).bind fun i=>
 if (!i)=true then
 some (sg,(Er.sent 1))
 else
 if ((p2.length:Int)==0)=true then
 some (sg,Er.nil)
 else
 ((bF sg p0 p1).bind fun j=>
 if (j==3)=true then
 (bv sg p0 (w64 (p1 - 1)) (⟨0,([]:List Int)⟩:aa)).bind fun k=>
 some (k)
 else
 some (sg)).bind fun b=>
 ((bF b p0 (w64 (p1+(p2.length:Int)))).bind fun l=>
 if (l==3)=true then
 (bv b p0 (w64 (p1+(p2.length:Int))) (⟨0,([]:List Int)⟩:aa)).bind fun m=>
 some (m)
 else
 some (b)).bind fun p=>
 (bN (σ:=Int×Sto) (τ:=Sto) (((p2.length:Int) - 0).toNat+1) (fun a=>
 if (decide (a.1 < (p2.length:Int)))=true then
 (idx p2 a.1).bind fun n=>
 (bv a.2 p0 (w64 (p1+a.1)) n).bind fun o=>
 some (.inl ((w64 (a.1+1)),o))
 else
 some (.inr (a.2))) (0,p)).bind fun h=>
 some (h,Er.nil)
theorem cr (A:Own c0 G F) (o:Rel c0 sg G) (hG:Gl [0,1] c0) (j:Option Nat) (a:Int) (f:List aa) {r:Sto×Er} (s:Pt 0 c0 v1 j) (x:Sl ac c0 v3 f) (H:bz sg j a f=some r): Calls prog 11 #[v1,I a,v3] c0.w (bu c0 fun c v=>∃y1,∃G_:Gm,Own c G_ (F)∧Rel c r.1 G_∧v=y1∧RE 54 99999 c y1 r.2):=by
 unfold bz at H;refine en func11 rfl rfl (sr (va (.nilIface) (wln (W.seq (W.block (W.seq (bn H fun u4 h5 H=>bn H fun v4 h6 H=>bn H fun j1 h7 H=>W.join (Jn c0 fun c l=>Own c G (F)∧l= [(0,v1),(1,I a),(2,v3),(10,B j1)]) ?_ ?_)))))))
 ·clear H;refine W.region (va (v1) (vr (B j.isNone) (by rcases (s).cs with ⟨q0,s0⟩ | ⟨b_,q0,s0⟩ <;> (subst q0; rw [s0]; kernel_rfl)) ?_));rcases bo (j.isNone) with h8 | h8
  ·obtain rfl:=orT h8 h5;refine vb h8 (pz (va (B true) ?_));have h9:true=true:=rfl;obtain rfl:=orT h9 h6;refine vb h9 (pz (pz (pz (ps (va (B true) ?_)))));have m0:true=true:=rfl;obtain rfl:=orT m0 h7;exact vb m0 (pz (pz (pz (pz (pz (vv (B true) (wln (jn c0 ⟨A,rfl⟩))))))))
  have g2:=orF h8 h5;refine vb h8 (wa (I a) (wa (B (decide (a < 0))) ?_));obtain rfl:=si g2;refine va (B (decide (a < 0))) ?_;rcases bo (decide (a < 0)) with q | q
  ·obtain rfl:=orT q h6;refine vb q (pz (pz (pz (ps (va (B true) ?_)))));have o0:true=true:=rfl;obtain rfl:=orT o0 h7;exact vb o0 (pz (pz (pz (pz (pz (vv (B true) (wln (jn c0 ⟨A,rfl⟩))))))))
  have k:=orF q h6;refine vb q (wa (I a) (wa (v1) (wn (bn k fun i4 a3 k=>?_))));obtain ⟨p,rfl,z2⟩:=(s).get a3;refine va (Q p) (wa (Q p) (wn (bn k fun y b3 k=>?_)));obtain ⟨v19,d5,d3,c3⟩:=Rel.open_row_Row o b3 z2;refine vx (le1 0 aO (A.gon d3 0 rfl)) (wn (vx (lnO 3 aO c3) (wa (B (decide (a > (y.cells.length:Int)))) ?_)));obtain rfl:=si k;refine va (B (decide (a > (y.cells.length:Int)))) ?_;rcases bo (decide (a > (y.cells.length:Int))) with t | t
  ·obtain rfl:=orT t h7;exact vb t (pz (pz (pz (pz (pz (vv (B true) (wln (jn c0 ⟨A,rfl⟩))))))))
  have n:=orF t h7;refine vb t (wa (v3) (wn (vx (ln 3 aO x) (wa (Q p) (wn (bn n fun j4 f3 n=>?_))))));have e3:=(s).get2 f3;refine va (Q p) (wa (Q p) (wn (bn n fun i g3 n=>?_)));obtain ⟨v29,e5,i3,h3⟩:=Rel.open_row_Row o g3 e3;refine vx (le1 0 aO (A.gon i3 0 rfl)) (wn (vx (lnO 3 aO h3) (wa (I a) (wa (I (w64 ((i.cells.length:Int) - a))) (wa (B (decide ((f.length:Int) > (w64 ((i.cells.length:Int) - a))))) ?_)))));obtain rfl:=si n;exact vv (B (decide ((f.length:Int) > (w64 ((i.cells.length:Int) - a))))) (wln (jn c0 ⟨A,rfl⟩))
 rintro e_ w_ ⟨s2,w4,_,rfl,d0,rfl,j0,rfl⟩;refine nrm (cn H (fun j3 H=>?_) (fun j3 H=>?_))
 ·refine sr ?_;obtain ⟨v40,t0⟩:=(hG.mono d0).get 0 (by decide);refine vx (l1 underlying30 t0.im) (va (v40) (wln (W.ret (bkr (thr ?_)))));obtain rfl:=si H;exact r1 (qq s2 ⟨v40,G,j0,o.m,rfl,t0⟩)
 refine sr (va (v3) (bn H fun e0 k3 H=>cl (cX j0 f x.m k3) ?_));rintro v48 X w0 ⟨N,rfl⟩;refine vv (B (!e0)) (wln (cn H (fun l3 H=>?_) (fun l3 H=>?_)))
 ·refine sr ?_;obtain ⟨v50,u0⟩:=(hG.mono (d0.trans w0)).get 1 (by decide);refine vx (l1 underlying30 u0.im) (va (v50) (wln (W.ret (bkr (thr ?_)))));obtain rfl:=si H;exact r1 (qq X ⟨v50,G,N,o.m,rfl,u0⟩)
 refine sr (va (v3) (vx (ln 3 aO x.m) (vv (B ((f.length:Int)==0)) (wln (cn H (fun n3 H=>?_) (fun n3 H=>?_))))))
 ·refine sr (va (.nilIface) (wln (W.ret (bkr (thr ?_)))));obtain rfl:=si H;exact r1 (qq X ⟨.nilIface,G,N,o.m,rfl,rfl⟩)
 refine W.skip (bkn (nrm (bn H fun z1 g i2=>W.seqJ (Jn X fun c l=>∃G_,Own c G_ (F)∧l= [(0,v1),(1,I a),(2,v3)]∧Rel c z1 G_) ?_ ?_)))
 ·refine sr (va (v1) (va (I a) (bn g fun w1 o3 g=>cl (cB N o.m j a s.m o3) ?_)));rintro f5 t2 z4 ⟨k0,rfl⟩;refine va (B (w1==3)) (wln (cn g (fun p3 g=>?_) (fun p3 g=>?_)))
  ·refine W.region (va (v1) (va (I a) (va (I (w64 (a - 1))) (va (.agg #[I 0,Y]) (bn g fun r4 q3 g=>cl (cb k0 o.m j (w64 (a - 1)) (⟨0,([]:List Int)⟩:aa) s.m (Sl.nl _ _) q3) ?_)))));rintro g5 u2 a5 ⟨c2,j2,n2,rfl⟩;refine wln ?_;obtain rfl:=si g;exact jn u2 ⟨c2,j2,rfl,n2⟩
  refine W.skip (nrm ?_);obtain rfl:=si g;exact jn t2 ⟨G,k0,rfl,o.m⟩
 rintro e_ w_ ⟨v2,x4,_,rfl,x3,rfl,d2,k2,rfl,R⟩;refine bn i2 fun b2 h d=>W.seqJ (Jn v2 fun c l=>∃G_,Own c G_ (F)∧l= [(0,v1),(1,I a),(2,v3)]∧Rel c b2 G_) ?_ ?_
 ·refine sr (va (I a) (va (v3) (vx (ln 3 aO x.m) (vv (I (w64 (a+(f.length:Int)))) (wln (sr (va (v1) (va (I (w64 (a+(f.length:Int)))) (bn h fun x1 s3 h=>cl (cB k2 R j (w64 (a+(f.length:Int))) s.m s3) ?_)))))))));rintro i5 w2 b5 ⟨l0,rfl⟩;refine va (B (x1==3)) (wln (cn h (fun t3 h=>?_) (fun t3 h=>?_)))
  ·refine W.region (va (v1) (va (I (w64 (a+(f.length:Int)))) (va (.agg #[I 0,Y]) (bn h fun s4 u3 h=>cl (cb l0 R.m j (w64 (a+(f.length:Int))) (⟨0,([]:List Int)⟩:aa) s.m (Sl.nl _ _) u3) ?_))));rintro j5 x2 c5 ⟨e2,l2,o2,rfl⟩;refine wln ?_;obtain rfl:=si h;exact jn x2 ⟨e2,l2,rfl,o2⟩
  refine W.skip (nrm ?_);obtain rfl:=si h;exact jn w2 ⟨d2,l0,rfl,R.m⟩
 rintro e_ w_ ⟨Z,y4,_,rfl,y3,rfl,f2,m2,rfl,q2⟩;refine W.seq (sr (va (v3) (vx (ln 3 aO x.m) (va (I 0) (wln (W.block (bn d fun n4 v0 D=>lp v0 (fun b=>Jn Z fun c l=>∃G_,Own c G_ (F)∧l= [(0,v1),(1,I a),(69,v3),(70,I (f.length:Int)),(71,I b.1)]∧Rel c b.2 G_) (fun h0 ex e w=>ex= .exit 1∧(Jn Z fun c l=>∃G_,Own c G_ (F)∧l= []∧Rel c h0 G_) e w) ?_ ?_ ?_)))))))
 ·clear D v0;intro b k5 y2 z3 d;revert y2 z3;rintro e_ w_ ⟨g1,f4,_,rfl,s1,rfl,x0,E,rfl,P⟩;refine sr (va (B (decide (b.1 < (f.length:Int)))) (wln (W.seq (cn d (fun k1 d=>?_) (fun k1 d=>?_)))))
  ·refine W.skip (nrm (W.seq (W.block (sr (va (I b.1) (bn d fun z a0 d=>?_))))));obtain ⟨b4,m1,u1⟩:=Sl.at (x.mono (d0.trans (w0.trans (x3.trans (y3.trans s1))))) (aH a0);obtain ⟨o4,rfl,u⟩:=m1;refine vx (ix aO x.m a0) (vx (lN 27 u1) (me (al 27 [I 0,Y] E) ?_));rintro p4 d4 t1 ⟨c4,rfl,a1⟩;refine va (I b.1) ?_;obtain ⟨S,T,U,rfl⟩:=((u.mono t1)).form;refine md (sA 27 [I z.Kind,.slice S T U] 0 a1 ⟨rfl,u.m.one,trivial⟩) ?_;rintro e4 k4 M;refine wln (W.region (va (v1) (va (I a) (va (I b.1) (va (I (w64 (a+b.1))) (vx (leN 27 0 [I z.Kind,.slice S T U] (M.on 0 rfl)) (bn d fun t4 n1 d=>cl (cb M P.m j (w64 (a+b.1)) z s.m u.m n1) ?_)))))));rintro q4 h1 l4 ⟨y0,b1,e1,rfl⟩;refine WL.nil (bkn (nrm (W.region (vv (I (w64 (b.1+1))) (WL.nil ?_)))));obtain rfl:=si d;refine ⟨_,rfl,?_⟩;have c1:=b1.sD 1 [];exact jn h1 ⟨y0,c1,rfl,e1⟩
  refine W.exit (thx ?_);obtain rfl:=si d;exact ⟨_,rfl,rfl,jn g1 ⟨x0,E,rfl,P⟩⟩
 ·exact jn Z ⟨f2,m2,rfl,q2⟩
 rintro _ e_ w_ ⟨rfl,i1,g4,_,rfl,m4,rfl,z0,d1,rfl,f1⟩;refine bke (nrm (sr (va (.nilIface) (wln (W.ret ?_)))));obtain rfl:=si D;exact r1 (qq i1 ⟨.nilIface,z0,d1,f1,rfl,rfl⟩)
def aj (sg:Sto):Option (Sto×Bool):=
 (bV sg 3).bind fun b=>
 (if b.2.isNone=true then some (true,b.1) else (bz b.1 b.2 0 ([(⟨2,([19968]:List Int)⟩:aa),(⟨3,([]:List Int)⟩:aa)]:List aa)).bind fun d=>
 some (!d.2.isNil,d.1)).bind fun c=>
 (if c.1=true then some (true,c.2) else (bz c.2 b.2 1 ([(⟨1,([97]:List Int)⟩:aa)]:List aa)).bind fun e=>
 some (!e.2.isNil,e.1)).bind fun a=>
 if a.1=true then
 some (a.2,false)
 else
 (aY a.2 b.2 0).bind fun f=>
 (ce f.2 (some (f.1.Kind==0))).bind fun g=>
 (ce g ((aL a.2 b.2).bind fun j=>
 some (j==3))).bind fun h=>
 (ce h ((aC a.2 b.2).bind fun k=>
 some ((k.length:Int)==3))).bind fun i=>
 some (a.2,i)
theorem bL (O0:Own c0 G F) (R0:Rel c0 sg G) (hG:Gl [0,1] c0) {r:Sto×Bool} (H:aj sg=some r): Calls prog 4 #[] c0.w (bu c0 fun c v=>∃G_:Gm,Own c G_ (F)∧Rel c r.1 G_∧v=B r.2):=by
 unfold aj at H;refine en func4 rfl rfl (sr (va (B false) (wln (sr (bn H fun h h1 H=>cl (dO O0 R0 3 h1) ?_)))));rintro v2 c8 l8 ⟨_,G4,O5,R6,a7,rfl,E⟩;refine va (v2) (wln (W.seq (W.seq (bn H fun f4 p0 H=>bn H fun b0 e0 H=>W.join (Jn c8 fun c l=>∃G_,Own c G_ (F)∧l= [(1,v2),(23,B b0.1)]∧Rel c b0.2 G_) ?_ ?_))))
 ·clear H;refine W.region (va (v2) (vr (B h.2.isNone) (by rcases (E).cs with ⟨b,d⟩ | ⟨b_,b,d⟩ <;> (subst b; rw [d]; kernel_rfl)) ?_));rcases bo (h.2.isNone) with n | n
  ·obtain rfl:=ag (it n p0);refine vb n (pz (pz (pz (ps (va (B true) ?_)))));have q0:true=true:=rfl;obtain rfl:=ag (it q0 e0);exact vb q0 (pz (pz (pz (va (B true) (wln (jn c8 ⟨G4,O5,rfl,R6⟩))))))
  have N:=ie n p0;refine vb n (wa (v2) (wn (me (sl (RI .i32) 21 [[J 19968]] ([19968]:List Int) O5 ⟨rfl,trivial⟩) ?_)));rintro v19 v3 h4 ⟨t4,m1,s0⟩;refine wn ?_;obtain ⟨S,T,U,rfl⟩:=(s0).form;refine va (.agg #[I 2,.slice S T U]) (wa (.agg #[I 3,Y]) (wn ?_));obtain ⟨w3,k2,i4,n1,j2⟩:=m1.frz 0 rfl s0;refine WL.gh k2 (me (sl ac 27 [[I 2,.slice S T U],[I 3,Y]] ([(⟨2,([19968]:List Int)⟩:aa),(⟨3,([]:List Int)⟩:aa)]:List aa) n1 ⟨⟨(.slice S T U),rfl,j2⟩,⟨(Y),rfl,(Sl.nl _ _)⟩,trivial⟩) ?_);rintro v31 x3 j4 ⟨u4,p1,l2⟩;refine wn ?_;obtain ⟨y3,n2,k4,q1,m2⟩:=p1.frz 0 rfl l2;refine WL.gh n2 (bn N fun z o2 N=>cl (cr q1 R6.m (hG.m.le (by decide)) h.2 0 ([(⟨2,([19968]:List Int)⟩:aa),(⟨3,([]:List Int)⟩:aa)]:List aa) E.m m2 o2) ?_);rintro v37 f2 l4 ⟨_,j1,k0,m0,rfl,p2⟩;refine wn (vr (B (!z.2.isNil)) (by rcases (p2).cs with ⟨b,d⟩ | ⟨b_,b,d⟩ | ⟨b_,b,d⟩ <;> (subst b; rw [d]; kernel_rfl)) ?_);obtain rfl:=si N;refine va (B (!z.2.isNil)) ?_;rcases bo (!z.2.isNil) with o | o
  ·obtain rfl:=ag (it o e0);refine vb o (pz (pz (pz (va (B true) (wln ?_)))));have s1:=k0.sD 2 [];exact jn f2 ⟨j1,s1,rfl,m0⟩
  have P:=ie o e0;refine vb o (wa (v2) (wn (me (sl (RI .i32) 21 [[J 97]] ([97]:List Int) k0 ⟨rfl,trivial⟩) ?_)));rintro v52 z3 m4 ⟨v4,t1,t0⟩;refine wn ?_;obtain ⟨X,Z,a0,rfl⟩:=(t0).form;refine va (.agg #[I 1,.slice X Z a0]) (wn ?_);obtain ⟨a4,s2,n4,v1,q2⟩:=t1.frz 0 rfl t0;refine WL.gh s2 (me (sl ac 27 [[I 1,.slice X Z a0]] ([(⟨1,([97]:List Int)⟩:aa)]:List aa) v1 ⟨⟨(.slice X Z a0),rfl,q2⟩,trivial⟩) ?_);rintro x4 b4 o4 ⟨w4,w1,t2⟩;refine wn ?_;obtain ⟨c4,w2,p4,x1,u2⟩:=w1.frz 0 rfl t2;refine WL.gh w2 (bn P fun i0 x2 P=>cl (cr x1 m0.m (hG.m.le (by decide)) h.2 1 ([(⟨1,([97]:List Int)⟩:aa)]:List aa) E.m u2 x2) ?_);rintro y4 g2 q4 ⟨_,k1,y1,e2,rfl,y2⟩;refine wn (vr (B (!i0.2.isNil)) (by rcases (y2).cs with ⟨b,d⟩ | ⟨b_,b,d⟩ | ⟨b_,b,d⟩ <;> (subst b; rw [d]; kernel_rfl)) ?_);obtain rfl:=si P;refine va (B (!i0.2.isNil)) (wln ?_);have z1:=y1.sD 4 [];exact jn g2 ⟨k1,z1,rfl,e2⟩
 rintro e_ w_ ⟨h2,g4,_,rfl,r4,rfl,M,l0,rfl,k⟩;refine nrm (cn H (fun z2 H=>?_) (fun z2 H=>?_))
 ·refine sr (va (B false) (wln (W.ret (thr ?_))));obtain rfl:=si H;exact r1 (qq h2 ⟨M,l0,k,rfl⟩)
 refine W.skip (nrm (sr (va (v2) (bn H fun a a3 H=>cl (cC l0 k h.2 0 E.m a3) ?_))));rintro z4 d4 s4 ⟨v0,c3,b2,rfl,u0⟩;refine va (.tuple #[.agg #[I a.1.Kind,v0],B a.2]) (va (.agg #[I a.1.Kind,v0]) (va (B a.2) (me (al 27 [I 0,Y] b2) ?_)));rintro a5 e4 b3 ⟨o0,rfl,c2⟩;obtain ⟨s,t,u,rfl⟩:=((u0.mono b3)).form;refine md (sA 27 [I a.1.Kind,.slice s t u] 0 c2 ⟨rfl,u0.m.one,trivial⟩) ?_;rintro x m3 i;refine va (B a.2) (wln (W.seq (bn H fun g3 d0 H=>bn H fun i3 y H=>bn H fun e1 j H=>W.join (Jn x fun c l=>Own c M ((Eb o0 27 [I a.1.Kind,.slice s t u]) :: es true (RI .i32) (.slice s t u) 21 c3 a.1.Text :: F)∧l= [(0,B e1)]) ?_ ?_)))
 ·clear H;refine W.region (va (B a.2) ?_);rcases bo (a.2) with e | e
  ·have w0:=anT e d0;refine vb e (wa (Q o0) (wn (vx (le1 0 u_3 (i.on 0 rfl)) (wa (B (a.1.Kind==0)) ?_))));obtain rfl:=si w0;refine va (B (a.1.Kind==0)) ?_;rcases bo (a.1.Kind==0) with f | f
   ·have p:=anT f y;refine vb f (wa (v2) (wn (bn p fun A f1 p=>cl (bk i k.m h.2 E.m f1) ?_)));rintro s3 b1 n3 ⟨R,rfl⟩;refine wa (B (A==3)) ?_;obtain rfl:=si p;refine va (B (A==3)) ?_;rcases bo (A==3) with g | g
    ·have q:=anT g j;refine vb g (wa (v2) (wn (bn q fun D g1 q=>cl (ct R k.m h.2 E.m g1) ?_)));rintro t3 c1 o3 ⟨_,q3,x0,rfl,i1⟩;refine wn (vx (lnO 3 aO i1) (wa (B ((D.length:Int)==3)) ?_));obtain rfl:=si q;refine vv (B ((D.length:Int)==3)) (wln ?_);have y0:=x0.sD 3 [1,2];exact jn c1 ⟨y0,rfl⟩
    obtain rfl:=anF g j;exact vb g (pz (pz (vv (B false) (wln (jn b1 ⟨R,rfl⟩)))))
   obtain rfl:=anF f y;refine vb f (pz (ps (va (B false) ?_)));have f0:false=false:=rfl;obtain rfl:=anF f0 j;exact vb f0 (pz (pz (vv (B false) (wln (jn x ⟨i,rfl⟩)))))
  obtain rfl:=anF e d0;refine vb e (pz (ps (va (B false) ?_)));have g0:false=false:=rfl;obtain rfl:=anF g0 y;refine vb g0 (pz (ps (va (B false) ?_)));have h0:false=false:=rfl;obtain rfl:=anF h0 j;exact vb h0 (pz (pz (vv (B false) (wln (jn x ⟨i,rfl⟩)))))
 rintro e_ w_ ⟨d1,k3,_,rfl,p3,rfl,z0,rfl⟩;refine nrm (W.ret ?_);obtain rfl:=si H;have a1:=z0.sD 2 [];exact r1 (qq d1 ⟨M,a1,k.m,rfl⟩)
end Go.Proofs.YtmncdniojmigeaaDoor
namespace Go.Lt
set_option linter.unusedVariables false
def R_H:Rp (Int×Value) where
 size:=2
 cells:=fun _ l x=>l= [.int .i64 x.1,x.2]∧x.2.oneCell'=true
 len:=fun h=>by rw [h.1]; rfl
 one:=by
  intro c l x h v hv
  rw [h.1] at hv
  simp only [f9,ez,or_false] at hv
  rcases hv with rfl | rfl
  ·rfl
  ·exact h.2
 mono:=fun _ h=>h
theorem OA.any {k:IntKind} {c:Cx} {v:Value} {vs:List Value} {xs:List Int} (h:OA (RI k) c v vs xs) (c':Cx):OA (RI k) c' v vs xs:=⟨h.1,h.2.1,fun i x hx=>h.2.2 i x hx⟩
theorem OA.anyH {c:Cx} {v:Value} {vs:List Value} {xs:List (Int×Value)} (h:OA R_H c v vs xs) (c':Cx):OA R_H c' v vs xs:=⟨h.1,h.2.1,fun i x hx=>h.2.2 i x hx⟩
theorem OA.len_eq {α β:Type} {R:Rp α} {S:Rp β} {c c':Cx} {v:Value} {vs ws:List Value} {xs:List α} {ys:List β} (h:OA R c v vs xs) (k:OA S c' v ws ys):xs.length=ys.length:=by
 rcases h.2.1 with ⟨e,rfl⟩ | ⟨g,cap,e,_⟩
 ·rcases k.2.1 with ⟨_,rfl⟩ | ⟨g',cap',e',_⟩
  ·rfl
  ·rw [e] at e'; cases e'
 ·rcases k.2.1 with ⟨e',rfl⟩ | ⟨g',cap',e',_⟩
  ·rw [e] at e'; cases e'
  ·rw [e] at e'
   injection e' with _ h2 _
theorem eK {α:Type} {xs zs:List α} {x:α} (h:app xs [x]=some zs):zs=xs++ [x]:=by
 unfold app at h;split at h
 ·exact (ag h).symm
 ·cases h
theorem fD {α β:Type} {xs zs:List α} {x:α} {ys:List β} (y:β) (h:app xs [x]=some zs) (hl:ys.length=xs.length):app ys [y]=some (ys++ [y]):=by
 unfold app at h⊢;split at h
 ·rename_i q
  rw [ao (by rw [hl]; exact q)]
 ·cases h
theorem Own.onM {c:Cx} {G:Gm} {L TE F:List En} (O:Own c G (L++(TE++F))):∀e∈TE,e.on c:=fun e he=>by
 obtain ⟨q,hq,rfl⟩:=List.mem_iff_getElem.1 he;refine O.on (L.length+q) ?_;rw [af (by omega),bS,ae hq,ab hq]
theorem Own.drops {c:Cx} {G:Gm} {F:List En}:∀(L:List En),Own c G (L++F)→Own c G F
 | [],O=>O
 | _ :: L,O=>Own.drops L O.tail
def eD (c:Cx) (TE:List En):Cx:=⟨c.w,fun b o=>c.A b o∨∃e,e∈TE∧blk e.v=some b,c.t⟩
def cq (e:En):En:=⟨e.v,e.T,e.vs,0⟩
theorem fH (L TE F:List En) (k:Nat) (e:En) (h:(L++(TE.map cq++F))[k]? = some e):∃e0,(L++(TE++F))[k]? = some e0∧e.v=e0.v∧e.T=e0.T∧e.vs=e0.vs∧((e0∈TE∧e.lim=0)∨(e=e0∧¬(L.length≤k∧k < L.length+TE.length))):=by
 rcases aw k L.length with h1 | h1
 ·rw [ae h1] at h;exact ⟨e,by rw [ae h1]; exact h,rfl,rfl,rfl,.inr ⟨rfl,by omega⟩⟩
 ·rw [af h1] at h;rw [af h1];rcases aw (k - L.length) TE.length with h2 | h2
  ·rw [ae (by rw [bd]; exact h2),cN,ab h2,cp] at h;obtain rfl:=ag h;exact ⟨TE[k - L.length],by rw [ae h2,ab h2],rfl,rfl,rfl,.inl ⟨iy h2,rfl⟩⟩
  ·rw [af (by rw [bd]; exact h2),bd] at h;exact ⟨e,by rw [af h2]; exact h,rfl,rfl,rfl,.inr ⟨rfl,by omega⟩⟩
theorem Own.thaw {c:Cx} {G:Gm} {L TE F:List En} (O:Own c G (L++(TE++F))):Own (eD c TE) G (L++(TE.map cq++F)):=by
 have old:∀i e,at_ G (L++(TE.map cq++F)) i=some e→∃e0,at_ G (L++(TE++F)) i=some e0∧e.v=e0.v∧e.T=e0.T∧e.vs=e0.vs∧((e0∈TE∧e.lim=0)∨(e=e0∧∀k,i= .inl k→¬(L.length≤k∧k < L.length+TE.length))):=fun i e he=>by
  cases i with
  | inl k=>
   obtain ⟨e0,h0,hv,hT,hvs,hc⟩:=fH L TE F k e he;exact ⟨e0,h0,hv,hT,hvs,hc.imp id fun h=>⟨h.1,fun k' hk=>by cases hk; exact h.2⟩⟩
  | inr q=>exact ⟨e,he,rfl,rfl,rfl,.inr ⟨rfl,fun k hk=>by cases hk⟩⟩
 have far:∀i e0,at_ G (L++(TE++F)) i=some e0→(∀k,i= .inl k→¬(L.length≤k∧k < L.length+TE.length))→∀e∈TE,∀b,blk e0.v=some b→blk e.v=some b→False:=fun i e0 h0 hi e he b h1 h2=>by
  obtain ⟨q,hq,rfl⟩:=List.mem_iff_getElem.1 he;refine O.m.2 i (.inl (L.length+q)) e0 TE[q] h0 ?_ (fun e=>hi _ e ⟨by omega,by omega⟩) b h1 h2;show (L++(TE++F))[L.length+q]? = _;rw [af (by omega),bS,ae hq,ab hq]
 refine ⟨⟨fun i e he b hb=>?_,fun i j e e' he he' hij b h1 h2=>?_⟩,O.t0⟩
 ·obtain ⟨e0,h0,hv,hT,hvs,hc⟩:=old i e he;rw [hv] at hb;obtain ⟨h1,h2⟩:=O.m.1 i e0 h0 b hb;refine ⟨by rw [hT,hvs]; exact h1,fun o=>?_⟩;rcases hc with ⟨hm,hlim⟩ | ⟨rfl,hk⟩
  ·rw [hlim];exact ⟨fun _=>bf _,fun _=> .inr ⟨e0,hm,hb⟩⟩
  ·refine ⟨fun h=>h.elim (h2 o).1 fun ⟨e2,m2,b2⟩=>(far i e h0 hk e2 m2 b hb b2).elim,fun h=> .inl ((h2 o).2 h)⟩
 ·obtain ⟨e0,h0,hv,_⟩:=old i e he;obtain ⟨e0',h0',hv',_⟩:=old j e' he';exact O.m.2 i j e0 e0' h0 h0' hij b (by rw [←hv]; exact h1) (by rw [←hv']; exact h2)
theorem eC {c0 c:Cx} {TE:List En} (h:c0.le c) (hA:∀b o,¬c0.A b o) (hon:∀e∈TE,e.on c):c0.le (eD c TE):=
 ⟨h.os,h.output,h.size,fun k o hk _=>⟨(h.cell k o hk (hA k o)).1,fun q=>by
  rcases q with q | ⟨e,he,hb⟩
  ·exact (h.cell k o hk (hA k o)).2 q
  ·exact (h.cell k e.lim hk (hA k e.lim)).2 (((hon e he k hb).2 e.lim).2 (ay _))⟩,h.block,h.frz,h.t⟩
theorem Own.forget {c:Cx} {G:Gm} {F:List En} (O:Own c G F):Own ⟨c.w,c.A,fun _ _=>none⟩ (fun _ _=>[]) F:=
 ⟨⟨fun i e he=>by
  cases i with
  | inl k=>exact O.m.1 (.inl k) e he
  | inr q=>simp [at_] at he,fun i j e e' he he' hij=>by
  cases i with
  | inl k=>cases j with
   | inl k'=>exact O.m.2 (.inl k) (.inl k') e e' he he' hij
   | inr q=>simp [at_] at he'
  | inr q=>simp [at_] at he⟩,fun _ _ _=>rfl⟩
theorem fb {c0 c:Cx} (h:c0.le c) (ht:∀g k,c0.t g k=none):c0.le ⟨c.w,c.A,fun _ _=>none⟩:=
 ⟨h.os,h.output,h.size,h.cell,h.block,h.frz,fun g k b hb=>by rw [ht g k] at hb; cases hb⟩
end Go.Lt
namespace Go.Proofs.YtmncdniojmigeaaDoor
open Go Go.Lt
def HTn (m:Bool) (n:Nat) (hs:List (Int×Value)) (TE:List En) (r:List aa):Prop:=
 hs.length=r.length∧∀(i:Nat) (x:aa),i < n→r[i]? = some x→∃h ws,hs[i]? = some (x.Kind,h)∧es m (RI .i32) h 21 ws x.Text∈TE∧∀c,OA (RI .i32) c h ws x.Text
abbrev HT (hs:List (Int×Value)) (TE:List En) (r:List aa):Prop:=HTn false r.length hs TE r
theorem HT.push {hs:List (Int×Value)} {TE:List En} {r:List aa} {x:aa} {h:Value} {ws:List Value} (H:HT hs TE r) (o:∀c,OA (RI .i32) c h ws x.Text):HT (hs++ [(x.Kind,h)]) (es false (RI .i32) h 21 ws x.Text :: TE) (r++ [x]):=by
 obtain ⟨h1,h2⟩:=H;refine ⟨by rw [aq,aq,h1]; rfl,fun i y hi hy=>?_⟩;rcases aw i r.length with hlt | hge
 ·rw [ae hlt] at hy;obtain ⟨g,ws',a,b,c⟩:=h2 i y hlt hy;exact ⟨g,ws',by rw [ae (by rw [h1]; exact hlt)]; exact a,cm _ b,c⟩
 ·have:i=r.length:=by rw [aq,gE] at hi; omega
  subst this;rw [af (ay _),el] at hy;obtain rfl:x=y:=ag hy;exact ⟨h,ws,by rw [←h1,af (ay _),el]; rfl,cG,o⟩
theorem OA.api' {c:Cx} {v:Value} {vs:List Value} {hs:List (Int×Value)} {r:List aa} (hl:hs.length=r.length) (hx:∀(i:Nat) (x:aa),r[i]? = some x→∃g,hs[i]? = some (x.Kind,g)∧Sl (RI .i32) c g x.Text) (h:OA R_H c v vs hs):OA ac c v vs r:=by
 refine ⟨h.1,?_,fun i x hxi=>?_⟩
 ·rcases h.2.1 with ⟨e,e2⟩ | ⟨g,cap,e,h2,h3,h4⟩
  ·exact .inl ⟨e,bt (by rw [←hl,e2]; rfl)⟩
  ·exact .inr ⟨g,cap,by rw [←hl]; exact e,by rw [←hl]; exact h2,h3,h4⟩
 ·obtain ⟨g,a,b⟩:=hx i x hxi;exact ⟨g,(h.2.2 i _ a).1,b⟩
theorem OA.toH {c:Cx} {v:Value} {vs:List Value} {r:List aa} (h:OA ac c v vs r):∃hs:List (Int×Value),OA R_H c v vs hs∧hs.length=r.length∧∀(i:Nat) (x:aa),r[i]? = some x→∃g,hs[i]? = some (x.Kind,g)∧Sl (RI .i32) c g x.Text:=by
 have key:∀(i:Nat) (x:aa),r[i]? = some x→∃g,((List.range r.length).map fun i=>((r[i]?.map (·.Kind)).getD 0,(vs[i * 2+1]?).getD .nilIface))[i]? = some (x.Kind,g)∧Sl (RI .i32) c g x.Text∧(vs.drop (i * 2)).take 2= [.int .i64 x.Kind,g]:=fun i x hx=>by
  obtain ⟨g,e,s⟩:=h.2.2 i x hx;have e':(vs.drop (i * 2)).take 2= [.int .i64 x.Kind,g]:=e;have hi:=(List.getElem?_eq_some_iff.1 hx).1;have hv:vs[i * 2+1]? = some g:=at1 (j:=1) e' rfl;refine ⟨g,?_,s,e'⟩;rw [cN,cv hi,cp,hx,hv];rfl
 refine ⟨_,⟨h.1,?_,fun i z hz=>?_⟩,by rw [bd,bZ],fun i x hx=>(key i x hx).imp fun g hg=>⟨hg.1,hg.2.1⟩⟩
 ·rcases h.2.1 with ⟨e,rfl⟩ | ⟨g,cap,e,h2,h3,h4⟩
  ·exact .inl ⟨e,rfl⟩
  ·exact .inr ⟨g,cap,by rw [bd,bZ]; exact e,by rw [bd,bZ]; exact h2,h3,h4⟩
 ·have hi:i < r.length:=by
   have:=(List.getElem?_eq_some_iff.1 hz).1
   rwa [bd,bZ] at this
  obtain ⟨g,a,b,d⟩:=key i _ (ab hi);rw [a] at hz;obtain rfl:=ag hz;exact ⟨d,b.one⟩
theorem HT.api {c:Cx} {v:Value} {vs:List Value} {hs:List (Int×Value)} {TE:List En} {r:List aa} (hon:∀e∈TE,e.on c) (H:HT hs TE r) (h:OA R_H c v vs hs):OA ac c v vs r:=
 OA.api' H.1 (fun i x hx=>by
  obtain ⟨g,ws,a,b,d⟩:=H.2 i x (List.getElem?_eq_some_iff.1 hx).1 hx;exact ⟨g,a,(d c).sl (hon _ b)⟩) h
theorem HT.sl {c:Cx} {v:Value} {hs:List (Int×Value)} {TE:List En} {r:List aa} (hon:∀e∈TE,e.on c) (H:HT hs TE r) (h:Sl R_H c v hs):Sl ac c v r:=by
 obtain ⟨a,cap,rfl,h2,h3,h4⟩:=h;refine ⟨a,cap,by rw [H.1],by rw [←H.1]; exact h2,h3,fun i x hx=>?_⟩;obtain ⟨g,ws,a1,a2,a3⟩:=H.2 i x (List.getElem?_eq_some_iff.1 hx).1 hx;obtain ⟨b,off,l,e,hl,hc⟩:=h4 i _ a1;exact ⟨b,off,l,e,⟨g,hl.1,(a3 c).sl (hon _ a2)⟩,hc⟩
theorem ft {c:Cx}:Rel c ⟨[]⟩ (fun _ _=>[]):=⟨⟨fun k x h=>by simp at h,fun _ _=>rfl⟩⟩
def HTL (hs:List (Int×Value)) (E:List En) (r:List aa):Prop:=
 hs.length=r.length∧∀(i:Nat) (x:aa),r[i]? = some x→∃h ws xs,hs[i]? = some (x.Kind,h)∧es true (RI .i32) h 21 ws xs∈E∧(∀c,OA (RI .i32) c h ws xs)∧xs.length=x.Text.length
theorem HT.htl {hs:List (Int×Value)} {TE E:List En} {r:List aa} (H:HT hs TE r) (hE:∀e∈TE,cq e∈E):HTL hs E r:=
 ⟨H.1,fun i x hx=>by
  obtain ⟨g,ws,a,b,d⟩:=H.2 i x (List.getElem?_eq_some_iff.1 hx).1 hx;exact ⟨g,ws,x.Text,a,hE _ b,d,rfl⟩⟩
theorem HTL.get {hs:List (Int×Value)} {E:List En} {r:List aa} (H:HTL hs E r) {i k:Int} {x:aa} {y:Int} (hx:idx r i=some x) (hk:idx x.Text k=some y):∃h ws xs,idx hs i=some (x.Kind,h)∧es true (RI .i32) h 21 ws xs∈E∧(∀c,OA (RI .i32) c h ws xs)∧(0≤k∧k < (xs.length:Int))∧∃z,idx xs k=some z:=by
 have h1:=dw hx;obtain ⟨h,ws,xs,a,b,c,d⟩:=H.2 _ x (aH hx);have h2:=dw hk;refine ⟨h,ws,xs,?_,b,c,⟨h2.1,by rw [d]; exact h2.2⟩,xs[k.toNat]'(by omega),?_⟩
 ·unfold idx; rw [ao h1.1]; exact a
 ·unfold idx; rw [ao h2.1]; exact ab (by omega)
def Pk (E E':List En):Prop:=∃p h ws xs ws' xs',E[p]? = some (es true (RI .i32) h 21 ws xs)∧E'=E.set p (es true (RI .i32) h 21 ws' xs')∧xs'.length=xs.length∧(∀c,OA (RI .i32) c h ws xs)∧∀c,OA (RI .i32) c h ws' xs'
theorem Pk.htl {E E':List En} {hs:List (Int×Value)} {r:List aa} (c0:Cx) (k:Pk E E') (H:HTL hs E r):HTL hs E' r:=by
 obtain ⟨p,h,ws,xs,ws',xs',h1,rfl,h3,h4,h5⟩:=k;refine ⟨H.1,fun i x hx=>?_⟩;obtain ⟨g,us,ys,a,b,c,d⟩:=H.2 i x hx;obtain ⟨q,hq,e⟩:=List.mem_iff_getElem.1 b;by_cases e2:q=p
 ·subst e2;rw [ab hq,e] at h1;have h6:=ag h1;have gh:g=h:=cA En.v h6;subst gh;refine ⟨g,ws',xs',a,?_,h5,by rw [h3,←OA.len_eq (c c0) (h4 c0),d]⟩;have:(E.set q (es true (RI .i32) g 21 ws' xs'))[q]? = some (es true (RI .i32) g 21 ws' xs'):=ai hq;exact dG this
 ·refine ⟨g,us,ys,a,?_,c,d⟩;have:(E.set p (es true (RI .i32) h 21 ws' xs'))[q]? = some (es true (RI .i32) g 21 us ys):=by rw [ak (cM e2),ab hq,e]
  exact dG this
theorem Pk.keep {E E':List En} {e:En} (k:Pk E E') (h:e∈E) (hT:e.T≠21):e∈E':=by
 obtain ⟨p,g,ws,xs,ws',xs',h1,rfl,h3,_⟩:=k;obtain ⟨q,hq,rfl⟩:=List.mem_iff_getElem.1 h;have hne:q≠p:=fun e2=>by
  subst e2;rw [ab hq] at h1;exact hT (by rw [ag h1]; rfl)
 have:(E.set p (es true (RI .i32) g 21 ws' xs'))[q]? = some E[q]:=by rw [ak (cM hne),ab hq]
 exact dG this
theorem gJ {P:Program} {ρ:Operand→Value} {o:Oper} {c:Cx} {G:Gm} {L E F:List En} {g:Value} {ws:List Value} {xs:List Int} {k:Int} (z:Int) (O:Own c G (L++(E++F))) (hm:es true (RI .i32) g 21 ws xs∈E) (ho:∀c,OA (RI .i32) c g ws xs) (hk:0≤k∧k < (xs.length:Int))
  (hx:execOp ρ o=(do Instr.storeAt 21 (.pointer (some ⟨sb g,k.toNat * 1,none⟩)) (J z); pure Next.skip:Sem Next):=by kernel_rfl) (hs:(P.info? 21).map (·.size)=some 1:=by kernel_rfl):∃c',(execOp ρ o).run P c.w= .ok .skip c'.w∧c.le c'∧∃E',Own c' G (L++(E'++F))∧Pk E E':=by
 obtain ⟨p,hp,e⟩:=List.mem_iff_getElem.1 hm;have hset:cJ xs k z=some (xs.set k.toNat z):=by unfold cJ; rw [ao hk]
 have hget:(L++(E++F))[L.length+p]? = some (es true (RI .i32) g 21 ws xs):=by
  rw [af (by omega),bS,ae hp,ab hp,e]
 obtain ⟨c',r1,r2,vs',O',o'⟩:=Own.stW (P:=P) (R:=RI .i32) (T:=21) (us:=[J z]) (x':=z) (u:=J z) (L.length+p) O hx hget (ho c) hset rfl hs ⟨rfl,trivial⟩ rfl rfl;refine ⟨c',r1,r2,E.set p (es true (RI .i32) g 21 vs' (xs.set k.toNat z)),?_,p,g,ws,xs,vs',_,by rw [ab hp,e],rfl,aN,ho,o'.any⟩;rw [gB _ _ (by omega),bS,List.set_append_left _ _ hp] at O';exact O'
end Go.Proofs.YtmncdniojmigeaaDoor
namespace Go.Lt
theorem bW {n:Int} (h: -9223372036854775808≤n∧n≤9223372036854775807):w64 n=n:=by
 unfold w64;rw [IntKind.wrap_i64];omega
theorem bsm {α β:Type} (a:α) (f:α→Option β):(some a).bind f=f a:=by simp
theorem dv {σ τ:Type} {step:σ→Option (σ ⊕ τ)} (Inv:σ→Prop) (μ:σ→Nat) (post:τ→Prop)
  (h:∀s,Inv s→(∃s',step s=some (.inl s')∧Inv s'∧μ s' < μ s)∨∃t,step s=some (.inr t)∧post t):
  ∀(fuel:Nat) (s:σ),Inv s→μ s < fuel→∃t,bN fuel step s=some t∧post t:=by
 intro fuel
 induction fuel with
 | zero=>intro s _ hm; omega
 | succ k ih=>
  intro s hs hm;rcases h s hs with ⟨s',h1,h2,h3⟩ | ⟨t,h1,h2⟩
  ·obtain ⟨t,h4,h5⟩:=ih s' h2 (by omega);exact ⟨t,by simp [bN,h1,h4],h5⟩
  ·exact ⟨t,by simp [bN,h1],h2⟩
theorem eF {σ τ:Type} {step:σ→Option (σ ⊕ τ)} (Inv:σ→Prop) (μ:σ→Nat) {t:τ}
  (h:∀s,Inv s→(∃s',step s=some (.inl s')∧Inv s'∧μ s' < μ s)∨step s=some (.inr t)) {fuel:Nat} {s:σ} (h0:Inv s) (hm:μ s < fuel):bN fuel step s=some t:=by
 obtain ⟨t',h1,h2⟩:=dv Inv μ (fun x=>x=t) (fun s hs=>(h s hs).imp id fun h=>⟨t,h,rfl⟩) fuel s h0 hm;rw [h1,h2]
theorem aX (a b:Bool):orE a (some b)=some (a || b):=by cases a <;> rfl
theorem ck (a b:Bool):ce a (some b)=some (a && b):=by cases a <;> rfl
theorem fa (x:Option Bool):orE false x=x:=rfl
theorem ff (x:Option Bool):ce true x=x:=rfl
theorem ey (x:Option Bool):ce false x=some false:=rfl
theorem fX {α:Type} (xs:List α) (i:Nat):idx xs (i:Int)=xs[i]? :=by
 unfold idx;rw [ao (ig i)];rfl
theorem bi {α:Type} {xs:List α} {i:Nat} (h:i < xs.length):idx xs (i:Int)=some xs[i]:=by
 rw [fX,ab h]
theorem fl {α:Type} {xs:List α} {i:Nat} (h:i < xs.length) (x:α):cJ xs (i:Int) x=some (xs.set i x):=by
 unfold cJ;rw [ao ⟨ig i,by omega⟩];rfl
theorem dV {α:Type} {xs ys:List α} (h:xs.length+ys.length≤1099511627776):app xs ys=some (xs++ys):=by
 unfold app far;rw [ao h]
theorem gn {α:Type} {n:Int} (x:α) (h:0≤n∧n≤1099511627776):rep n x=some (List.replicate n.toNat x):=by
 unfold rep far;rw [ao (by omega)]
theorem eG (x y:Int):dT x y=max x y:=by unfold dT; split <;> omega
theorem fW (x y:Int):et x y=min x y:=by unfold et; split <;> omega
theorem bX {τ:Type} {step:Int→Option (Int ⊕ τ)} {n:Nat} (hn:n≤9223372036854775807) (post:τ→Prop) (Inv:Nat→Prop) (h0:Inv 0)
  (h:∀i:Nat,i < n→Inv i→(step i=some (.inl ((i+1:Nat):Int))∧Inv (i+1))∨∃t,step i=some (.inr t)∧post t)
  (hend:Inv n→∃t,step n=some (.inr t)∧post t):∃t,bN (((n:Int) - 0).toNat+1) step 0=some t∧post t:=by
 refine dv (fun s:Int=>∃i:Nat,s=(i:Int)∧i≤n∧Inv i) (fun s:Int=>n - s.toNat) post (fun s ⟨i,hs,hi,hI⟩=>?_) _ _ ⟨0,rfl,bf _,h0⟩ (by simp);subst hs;rcases aw i n with hlt | hge
 ·rcases h i hlt hI with ⟨h1,h2⟩ | h1
  ·exact .inl ⟨_,h1,⟨i+1,rfl,hlt,h2⟩,by simp; omega⟩
  ·exact .inr h1
 ·obtain rfl:i=n:=by omega
  exact .inr (hend hI)
theorem fz {σ τ:Type} {step:σ→Option (σ ⊕ τ)} {n:Nat} (Inv:Nat→σ→Prop) (post:τ→Prop)
  (h:∀i s,i < n→Inv i s→(∃s',step s=some (.inl s')∧Inv (i+1) s')∨∃t,step s=some (.inr t)∧post t)
  (hend:∀s,Inv n s→∃t,step s=some (.inr t)∧post t) {fuel:Nat} {s:σ} (h0:Inv 0 s) (hf:n < fuel):∃t,bN fuel step s=some t∧post t:=by
 have key:∀fuel i s,i≤n→n - i < fuel→Inv i s→∃t,bN fuel step s=some t∧post t:=by
  intro fuel
  induction fuel with
  | zero=>intro i s _ hm; omega
  | succ k ih=>
   intro i s hi hm hs;rcases aw i n with hlt | hge
   ·rcases h i s hlt hs with ⟨s',h1,h2⟩ | ⟨t,h1,h2⟩
    ·obtain ⟨t,h4,h5⟩:=ih (i+1) s' hlt (by omega) h2;exact ⟨t,by simp [bN,h1,h4],h5⟩
    ·exact ⟨t,by simp [bN,h1],h2⟩
   ·obtain rfl:i=n:=by omega
    obtain ⟨t,h1,h2⟩:=hend s hs;exact ⟨t,by simp [bN,h1],h2⟩
 exact key fuel 0 s (bf _) (by omega) h0
theorem db {σ τ β:Type} {step:σ→Option (σ ⊕ τ)} {n:Nat} (Inv:Nat→σ→Prop) (post:τ→Prop) {fuel:Nat} {s:σ} {k:τ→Option β} {r:Option β}
  (h:∀i s,i < n→Inv i s→(∃s',step s=some (.inl s')∧Inv (i+1) s')∨∃t,step s=some (.inr t)∧post t)
  (hend:∀s,Inv n s→∃t,step s=some (.inr t)∧post t) (h0:Inv 0 s) (hf:n < fuel) (hk:∀t,post t→k t=r):(bN fuel step s).bind k=r:=by
 obtain ⟨t,h1,h2⟩:=fz Inv post h hend h0 hf;rw [h1];exact hk t h2
theorem dt {i n:Nat} (h:i < n) (hn:n≤9223372036854775807):w64 ((i:Int)+1)=((i+1:Nat):Int):=by
 rw [bW (by omega)];simp
theorem dlt {i n:Nat} (h:i < n):decide ((i:Int) < (n:Int))=true:=by simp; exact h
end Go.Lt
namespace Go.Proofs.YtmncdniojmigeaaDoor
open Go Go.Lt
set_option maxRecDepth 10000
set_option linter.unusedVariables false
attribute [local irreducible] W WL AC
open Tryd
variable {c0:Cx} {G:Gm} {F:List En} {sg:Sto} {v1 v2 v3:Value}
theorem fc (O0:Own c0 G F) (R0:Rel c0 sg G) (M:Option Nat) {r:List aa} (h2:Pt 0 c0 v1 M) (H:aC sg M=some r):
    Calls prog 7 #[v1] c0.w (bu c0 fun c v=>∃N y2 hs TE,Own c G (es true R_H N 27 y2 hs :: (TE++F))∧v=N∧OA R_H c N y2 hs∧HT hs TE r):=by
 unfold aC at H;refine en func7 rfl rfl (sr (va (Y) (wln (sr (va (Y) (wln (W.seq (sr (va (v1) (bn H fun E h3 H=>cl (bk O0 R0 M h2 h3) ?_))))))))));rintro v9 o l8 ⟨O5,rfl⟩;refine va (I 0) (wln (W.block (bn H fun j2 x p=>lp x (fun a=>Jn o fun c l=>∃v12 f hs TE,Own c G (es true R_H v12 27 f hs :: (TE++F))∧l= [(0,v1),(3,v12),(6,I E),(7,I a.2)]∧OA R_H c v12 f hs∧HT hs TE a.1) (fun k ex e w=>ex= .exit 0∧(Jn o fun c l=>∃v14 g hs TE,Own c G (es true R_H v14 27 g hs :: (TE++F))∧l= [(3,v14)]∧OA R_H c v14 g hs∧HT hs TE k) e w) ?_ ?_ ?_)))
 ·clear p x
  intro a n2 h0 f1 H
  revert h0 f1
  rintro e_ w_ ⟨e0,z1,_,rfl,l16,rfl,v12,f,hs,TE,d,rfl,y,T⟩;refine sr (va (B (decide (a.2 < E))) (wln (W.seq (cn H (fun j0 H=>?_) (fun j0 H=>?_)))))
  ·refine W.skip (nrm (W.seq (W.block (sr (va (I a.2) (va (I a.2) (wln (W.region (va (v12) (va (v1) (bn H fun m1 l0 H=>?_)))))))))));obtain ⟨u,rfl,k0⟩:=((h2.mono (l8.trans l16))).get l0;refine va (Q u) (va (Q u) (bn H fun p1 m0 H=>?_));obtain ⟨v28,k2,z,h⟩:=Rel.open_row_Row (R0.mono (l8.trans l16)) m0 k0;refine vx (le1 0 underlying22 (d.gon z 0 rfl)) (va (I a.2) (bn H fun b i H=>vx (ixO underlying22 h i) ?_));obtain ⟨n1,o0,d1⟩:=OA.at h i;obtain ⟨v36,rfl,q0⟩:=o0;refine vr (.agg #[I b.Kind,v36]) (rx (by kernel_rfl) (fU (T:=27) (l:=[I b.Kind,v36]) (by kernel_rfl) (by kernel_rfl) (d.gon z 1 rfl) (h.blk i) (at2 (j:=0) d1 rfl))) (bn H fun n s0 H=>cl (cj d b q0 s0) ?_);rintro v47 t1 c2 ⟨v39,l2,P,rfl,t0⟩;obtain ⟨u1,u0,d2,R,A⟩:=P.frz 0 rfl t0;refine WL.gh u0 ?_;obtain ⟨q,s,t,rfl⟩:=(A).form;refine me (sl R_H 27 [[I n.Kind,.slice q s t]] ([(n.Kind,.slice q s t)]:List (Int×Value)) R ⟨⟨rfl,rfl⟩,trivial⟩) ?_;rintro v59 w1 e2 ⟨m2,S,v0⟩;obtain ⟨x1,x0,f2,U,w0⟩:=S.frz 0 rfl v0;refine WL.gh x0 (bn H fun s1 y0 H=>me (ap R_H (.agg #[I 0,Y]) 32 22 2 U y.m w0 (fD (n.Kind,Value.slice q s t) y0 T.1) underlying22) ?_);rintro D f0 g2 ⟨e1,X,z0⟩;refine va (D) (WL.nil (bkn (nrm (W.region (va (I (w64 (a.2+1))) (va (I (w64 (a.2+1))) (WL.nil ?_)))))));obtain rfl:=si H;refine ⟨_,rfl,?_⟩;have Z:=X.sD 3 [2,1];obtain rfl:=eK y0;exact ⟨f0,_,_,rfl,pt,us,D,e1,_,es false (RI .i32) (.slice q s t) 21 l2 n.Text :: TE,Z,rfl,z0,T.push t0.any⟩
  refine W.exit (thx ?_);obtain rfl:=si H;exact ⟨_,rfl,rfl,⟨e0,_,_,rfl,pt,us,v12,f,hs,TE,d,rfl,y,T⟩⟩
 ·have a1:OA R_H o (Y) [] []:=OA.nil (bJ _);have a0:=O5.addHole (e:=es true R_H (Y) 27 [] ([]:List (Int×Value))) rfl;exact ⟨o,_,_,rfl,pt,us,(Y),[],[],[],a0,rfl,a1,rfl,fun i x hi hx=>by simp at hx⟩
 rintro _ e_ w_ ⟨rfl,g0,b2,_,rfl,i2,rfl,v14,g,hs,TE,b0,rfl,b1,T⟩;refine bke (nrm (sr (va (v14) (va (v14) (wln (W.ret ?_))))));obtain rfl:=si p;exact r1 ⟨_,g0,rfl,rfl,pt,v14,g,hs,TE,b0,rfl,b1,T⟩
theorem go (O0:Own c0 G F) (R0:Rel c0 sg G) (hG:Gl [0,1] c0) (d:List aa) {r:Sto×(Option Nat)×Er} (j:Sl ac c0 v1 d) (H:bG sg d=some r):
    Calls prog 6 #[v1] c0.w (bu c0 fun c v=>∃y1 y2,∃(Gx:Gm) (TE:List En),Own c Gx (TE++F)∧Rel c r.1 Gx∧v= .tuple #[y1,y2]∧Pt 0 c y1 r.2.1∧RE 54 99999 c y2 r.2.2∧
      ∀k row,r.2.1=some k→r.1.row_Row[k]? = some row→∃b X u1 hs,Gx 0 k= [Eb b 45 [X,B row.wrap],es true ac X 27 u1 row.cells]∧OA R_H c X u1 hs∧HTn false d.length hs TE row.cells):=by
 unfold bG at H;refine en func6 rfl rfl (sr (va (.pointer none) (va (.nilIface) (wln (W.seq (W.block (W.seq (bn H fun m2 h3 H=>W.join (Jn c0 fun c l=>Own c G (F)∧l= [(0,v1),(7,B m2)]) ?_ ?_))))))))
 ·clear H
  refine W.region (va (v1) (vx (ln 3 underlying22 j) (va (B ((d.length:Int)==0)) ?_)));rcases bo ((d.length:Int)==0) with M | M
  ·obtain rfl:=orT M h3;exact vb M (ps (ps (ps (va (B true) (va (B true) (wln ⟨c0,_,_,rfl,pt,us,O0,rfl⟩))))))
  have H5:=orF M h3;refine vb M (wn (va (v1) (wn (vx (ln 3 underlying22 j) (wn (va (B (decide ((d.length:Int) > 1024))) ?_))))));obtain rfl:=si H5;exact va (B (decide ((d.length:Int) > 1024))) (va (B (decide ((d.length:Int) > 1024))) (wln ⟨c0,_,_,rfl,pt,us,O0,rfl⟩))
 rintro e_ w_ ⟨c6,g7,_,rfl,l6,rfl,O8,rfl⟩;refine nrm (cn H (fun p2 H=>?_) (fun p2 H=>?_))
 ·refine W.seq (rD [] (Kp G0 []) O8 ?_);intro g0 g3 w1;have j4:Kp G0 [] g0:=Kp.nil0;obtain ⟨v16,i0⟩:=(hG.mono (l6.trans g3)).get 0 (by decide);refine tx 0 (fun c' p=>l1 underlying30 i0.m.im) (ta 1 (.pointer none) (ta 2 (v16) (dn (nrm (W.ret (bkr (thr ?_)))))));obtain rfl:=si H;exact r2 ⟨_,g0,rfl,rfl,pt,(.pointer none),v16,G,[],w1,R0.m,rfl,rfl,i0,fun k row h=>by cases h⟩
 refine sr (va (v1) (bn H fun Z q2 H=>cl (cX O8 d j.m q2) ?_));rintro v24 e4 t0 ⟨e0,rfl⟩;refine va (B (!Z)) (va (B (!Z)) (wln (cn H (fun s2 H=>?_) (fun s2 H=>?_))))
 ·refine W.seq (rD [] (Kp G0 []) e0 ?_);intro h0 i3 x1;have k4:Kp G0 [] h0:=Kp.nil0;obtain ⟨v29,j0⟩:=(hG.mono (l6.trans (t0.trans i3))).get 1 (by decide);refine tx 0 (fun c' p=>l1 underlying30 j0.m.im) (ta 1 (.pointer none) (ta 2 (v29) (dn (nrm (W.ret (bkr (thr ?_)))))));obtain rfl:=si H;exact r2 ⟨_,h0,rfl,rfl,pt,(.pointer none),v29,G,[],x1,R0.m,rfl,rfl,j0,fun k row h=>by cases h⟩
 refine W.skip (bkn (nrm (sr (va (v1) (vx (ln 3 underlying22 j.m) (bn H fun b4 u2 H=>cl (dO e0 R0.m (d.length:Int) u2) ?_))))));rintro v32 E j3 ⟨_,t1,z1,g2,d4,rfl,k0⟩;have hdl:=j.len_le;refine va (v32) (wln (W.seq (sr (va (v1) (vx (ln 3 underlying22 j.m) (va (I 0) (wln (W.block (bn H fun a4 l0 d0=>lp l0 (fun a=>Jn E fun c l=>∃Gx TE,Own c Gx (TE++F)∧l= [(4,v32),(25,v1),(26,I (d.length:Int)),(27,I a.1)]∧Rel c a.2 Gx∧0≤a.1∧∀k row,b4.2=some k→a.2.row_Row[k]? = some row→∃b X u1 hs,Gx 0 k= [Eb b 45 [X,B row.wrap],es true ac X 27 u1 row.cells]∧OA R_H c X u1 hs∧HTn false a.1.toNat hs TE row.cells) (fun b0 ex e w=>ex= .exit 1∧(Jn E fun c l=>∃Gx TE,Own c Gx (TE++F)∧l= [(4,v32)]∧Rel c b0 Gx∧∀k row,b4.2=some k→b0.row_Row[k]? = some row→∃b X u1 hs,Gx 0 k= [Eb b 45 [X,B row.wrap],es true ac X 27 u1 row.cells]∧OA R_H c X u1 hs∧HTn false d.length hs TE row.cells) e w) ?_ ?_ ?_)))))))))
 ·clear d0 l0
  intro a p4 o2 p3 H
  revert o2 p3
  rintro e_ w_ ⟨i2,i4,_,rfl,u0,rfl,i,TE,f0,rfl,y,ha0,HO⟩;refine sr (va (B (decide (a.1 < (d.length:Int)))) (wln (W.seq (cn H (fun v2 H=>?_) (fun v2 H=>?_)))))
  ·refine W.skip (nrm (W.seq (W.block (sr (va (I a.1) (bn H fun b m0 H=>?_))))));obtain ⟨z3,w2,l3⟩:=Sl.at (j.mono (l6.trans (t0.trans (j3.trans u0)))) (aH m0);obtain ⟨v53,rfl,N⟩:=w2;refine vx (ix underlying22 j.m m0) (vx (lN 27 l3) (me (al 27 [I 0,Y] f0) ?_));rintro v58 f4 q ⟨n,rfl,b2⟩;refine va (I a.1) ?_;obtain ⟨f,g,h,rfl⟩:=((N.mono q)).form;refine md (sA 27 [I b.Kind,.slice f g h] 0 b2 ⟨rfl,N.m.one,trivial⟩) ?_;rintro g4 S c2;refine wln (rD [8] (Kp i [(Eb n 27 [I b.Kind,.slice f g h])]) c2 ?_);intro j2 U s;have w0:Kp i [(Eb n 27 [I b.Kind,.slice f g h])] j2:=(Kp.cons (s.on 0 rfl) (Kp.nil s));refine ta 0 (v32) (bn H fun x3 x2 H=>?_);obtain ⟨o,rfl,o0⟩:=((k0.mono (u0.trans (q.trans (S.trans U))))).get x2;refine ta 1 (Q o) (ta 2 (Q o) (bn H fun p1 z2 H=>?_));obtain ⟨X,l4,s0,q0⟩:=Rel.open_row_Row (y.mono (q.trans (S.trans U))) z2 o0;refine tkx 3 w0 (fun c' p hk=>le1 0 underlying22 (hk.gon s0 0 rfl)) (ta 4 (I a.1) (tkx 5 w0 (fun c' p hk=>leN 27 0 [I b.Kind,.slice f g h] (hk.on 0 rfl)) (bn H fun k a3 H=>o1 6 (gc 6 (cj s b N.m a3) ?_))));rintro o4 k2 k3 ⟨n4,m4,t,rfl,b3⟩;have m3:Kp i [(Eb n 27 [I b.Kind,.slice f g h])] k2:=(Kp.cons (t.on 1 rfl) (Kp.nil t));refine ⟨.inr m3,bn H fun c4 c3 H=>tx 7 (fun c' p=>ixO underlying22 q0.m c3) ?_⟩;obtain ⟨l2,d3,v0,x,P⟩:=t.frz 0 rfl b3;have n3:Kp i [(Eb n 27 [I b.Kind,.slice f g h])] l2:=(Kp.cons (x.on 1 rfl) (Kp.nil x));refine AC.gh d3 v0 (fun _=>n3) ?_;obtain ⟨z,A,D,rfl⟩:=(P).form;have e2:=x.borrow 1 s0 rfl;obtain ⟨b_,X',u1,hs,s0',oH,hT⟩:=HO _ _ x2 z2;rw [s0] at s0'
   injection s0' with hE1 hE2
   injection hE2 with hE2 _
   have hX:X=X':=cA En.v hE2;have hu:l4=u1:=cA En.vs hE2;subst hX hu;refine bn H fun q1 e3 H=>?_;have e3i:0≤a.1∧a.1 < (p1.cells.length:Int):=dw c3;have hset:cJ hs a.1 (k.Kind,Value.slice z A D)=some (hs.set a.1.toNat (k.Kind,Value.slice z A D)):=by unfold cJ; rw [ao (by rw [hT.1]; exact e3i)]
   have hq1:q1=p1.cells.set a.1.toNat k:=by
     unfold cJ at e3;rw [ao e3i] at e3;exact (ag e3).symm
   refine o1 8 (gD 8 (Own.stW (R:=R_H) (T:=27) (xs:=hs) (us:=[I k.Kind,.slice z A D]) (x':=(k.Kind,.slice z A D)) (u:= .agg #[I k.Kind,.slice z A D]) 0 e2 (by kernel_rfl) rfl (oH.anyH _) hset rfl (by kernel_rfl) ⟨rfl,P.one,trivial⟩ rfl ⟨rfl,rfl⟩) ?_);rintro h1 m1 ⟨x0,f2,f3⟩;have hkey:∀(i':Nat) (x':aa),q1[i']? = some x'→∃g',(hs.set a.1.toNat (k.Kind,Value.slice z A D))[i']? = some (x'.Kind,g')∧Sl (RI .i32) h1 g' x'.Text:=fun i' x' hx'=>by
     rw [hq1] at hx';by_cases hi:i'=a.1.toNat
     · subst hi
       rw [ai (by omega)] at hx';obtain rfl:=ag hx';exact ⟨.slice z A D,ai (by rw [hT.1]; omega),P.m⟩
     · rw [ak (cM hi)] at hx'
       obtain ⟨hs2,oH2,hl2,hx2⟩:=OA.toH (q0.mono (k3.trans (v0.trans m1)));obtain ⟨g',a1',a2'⟩:=hx2 i' x' hx';refine ⟨g',?_,a2'⟩;rw [ak (cM hi)];have h3:hs[i']? = some (hs[i']'(by rw [hT.1]; exact (List.getElem?_eq_some_iff.1 hx').1)):=ab _;have c1:=(oH2.2.2 i' _ a1').1;have c2':=(oH.2.2 i' _ h3).1;rw [c1] at c2'
       injection c2' with c3' c4'
       injection c4' with c5' _
       injection c3' with _ c6'
       rw [h3]
       congr 1
       exact Prod.ext c6'.symm c5'.symm
   have fA:OA ac h1 X x0 q1:=OA.api' (by rw [hq1,aN,aN]; exact hT.1) hkey f3;have a1:=f2.giveB 1 rfl;refine bn H fun s1 j1 H=>?_;obtain ⟨y0,b1,f1,w3,u3⟩:=Rel.put_row_Row a1 (y.mono (q.trans (S.trans (U.trans (k3.trans (v0.trans m1)))))) (E':=[(Eb o 45 [X,B p1.wrap]),es true ac X 27 x0 q1]) j1 ⟨o,X,x0,(tm o0),rfl,fA⟩;refine ⟨.inl rfl,dn (bkn (nrm (W.region (va (I (w64 (a.1+1))) (va (I (w64 (a.1+1))) (WL.nil ?_))))))⟩;obtain rfl:=si H;refine ⟨_,rfl,?_⟩;have c1:=b1.sD 2 [0];have hlt:a.1 < (d.length:Int):=io v2;have hw:w64 (a.1+1)=a.1+1:=bW (by omega);refine ⟨h1,_,_,rfl,pt,us,y0,es false (RI .i32) (.slice z A D) 21 m4 k.Text :: TE,c1,rfl,f1,by show 0≤w64 (a.1+1); rw [hw]; omega,fun k' row hk' hrow=>?_⟩;obtain rfl:x3=k':=ag (x2.symm.trans hk');have hrow':row=⟨q1,p1.wrap⟩:=by
     unfold Sto.set_row_Row at j1;split at j1
     · rename_i hlt3
       obtain rfl:=ag j1;have:(a.2.row_Row.set x3 (⟨q1,p1.wrap⟩:az))[x3]? = some row:=hrow;rw [ai hlt3] at this;exact (ag this).symm
     · cases j1
   subst hrow';refine ⟨o,X,x0,_,w3,f3,by rw [hq1,aN,aN]; exact hT.1,fun i' x' hi' hx'=>?_⟩;have hi2:i' < a.1.toNat+1:=by
     have:i' < (w64 (a.1+1)).toNat:=hi';rw [hw] at this;omega
   have hx2:(p1.cells.set a.1.toNat k)[i']? = some x':=by rw [←hq1]; exact hx'
   by_cases hi:i'=a.1.toNat
   · subst hi
     rw [ai (by omega)] at hx2;obtain rfl:=ag hx2;exact ⟨_,m4,ai (by rw [hT.1]; omega),cG,b3.any⟩
   · rw [ak (cM hi)] at hx2
     obtain ⟨g',ws',q1',q2',q3'⟩:=hT.2 i' x' (by omega) hx2;exact ⟨g',ws',by rw [ak (cM hi)]; exact q1',cm _ q2',q3'⟩
  refine W.exit (thx ?_);obtain rfl:=si H;have hge:¬a.1 < (d.length:Int):=of_decide_eq_false v2;refine ⟨_,rfl,rfl,⟨i2,_,_,rfl,pt,us,i,TE,f0,rfl,y,fun k row hk hrow=>?_⟩⟩;obtain ⟨b,X,u1,hs,q1,q2,q3⟩:=HO k row hk hrow;exact ⟨b,X,u1,hs,q1,q2,q3.1,fun i' x' hi' hx'=>q3.2 i' x' (by omega) hx'⟩
 ·refine ⟨E,_,_,rfl,pt,us,t1,[],z1,rfl,g2,Int.le_refl _,fun k row hk hrow=>?_⟩;obtain ⟨o,_,o0⟩:=k0.get hk;obtain ⟨X,l4,s0,q0⟩:=Rel.open_row_Row g2 hrow o0;obtain ⟨hs2,oH2,hl2,hx2⟩:=OA.toH q0;exact ⟨o,X,l4,hs2,s0,oH2,hl2,fun i' x' hi' hx'=>by simp at hi'⟩
 rintro _ e_ w_ ⟨rfl,i1,v3,_,rfl,y3,rfl,z0,TE,d1,rfl,g1,HO⟩;refine bke (nrm (sr (va (v32) (va (v32) (va (.nilIface) (wln (W.ret ?_)))))));obtain rfl:=si d0;exact r2 ⟨_,i1,rfl,rfl,pt,v32,.nilIface,z0,TE,d1,g1,rfl,k0.m,rfl,HO⟩
end Go.Proofs.YtmncdniojmigeaaDoor
namespace Go.Proofs.YtmncdniojmigeaaDoor
open Go Go.Lt
theorem fC {a b:aa} (h1:a.Kind=b.Kind) (h2:a.Text=b.Text):a=b:=by
 cases a; cases b; simp_all
def bl:aa:=⟨0,[]⟩
def vld (r:Int):Bool:=decide (0≤r) && decide (r≤1114111) && (decide (r < 55296) || decide (r > 57343))
theorem eX (r:Int):aB r=some (vld r):=by
 simp only [aB,ck,aX,bsm,vld,ge_iff_le]
theorem eP (r:Int):bj r=some (vld r):=by
 simp only [bj,ck,aX,bsm,vld,aF];rw [Bool.eq_iff_iff];simp;omega
def rgt (c:aa):Bool:=
 if c.Kind=0∨c.Kind=3 then c.Text.isEmpty else (decide (c.Kind=1) || decide (c.Kind=2)) && decide (1≤c.Text.length) && decide (c.Text.length≤16) && c.Text.all vld
theorem cL {α:Type} (p:α→Bool) (l:List α) (i:Nat) (h:i < l.length):(l.take (i+1)).all p=((l.take i).all p && p l[i]):=by
 rw [bg h,List.all_append];simp
theorem cY {α:Type} {p:α→Bool} {l:List α} {i:Nat} (h:i < l.length) (hp:p l[i]=false):l.all p=false:=by
 rw [List.all_eq_false];exact ⟨_,iy h,by simp [hp]⟩
theorem di {α:Type} (l:List α):((l.length:Int)==0)=l.isEmpty:=by
 cases l <;> simp <;> omega
theorem eZ (c:aa):aA c=some (rgt c):=by
 unfold aA rgt;simp only [aX,ck,bsm];by_cases h1:c.Kind=0∨c.Kind=3
 ·have e:(c.Kind==0 || c.Kind==3)=true:=by rcases h1 with h | h <;> simp [h]
  rw [ao e,ao h1,di]
 ·have e:(c.Kind==0 || c.Kind==3)=false:=by simp; omega
  rw [aK (by rw [e]; simp),aK h1];by_cases h2:((c.Kind=1∨c.Kind=2)∧1≤c.Text.length∧c.Text.length≤16)
  ·have e2:(((c.Kind != 1 && c.Kind != 2) || decide ((c.Text.length:Int) < 1)) || decide ((c.Text.length:Int) > 16))=false:=by
    simp; omega
   rw [aK (by rw [e2]; simp)];obtain ⟨t,h3,h4⟩:=bX (τ:=Bool ⊕ Unit) (n:=c.Text.length) (by omega) (fun t=>match t with | .inl b=>b=c.Text.all vld | .inr _=>c.Text.all vld=true) (fun i=>(c.Text.take i).all vld=true) (by simp)
    (step:=fun s_44=>
     if (decide (s_44 < (c.Text.length:Int)))=true then
     (idx c.Text s_44).bind fun x_54=>
     (aB x_54).bind fun x_56=>
     if (!x_56)=true then
     some (.inr (.inl false))
     else
     some (.inl ((w64 (s_44+1))))
     else
     some (.inr (.inr ())))
    (fun i hi hI=>by
     have e3:w64 ((i:Int)+1)=((i+1:Nat):Int):=by rw [bW (by omega)]; simp
     simp only [bK,hi,bQ,dc,bi hi,bsm,eX,e3]
     cases hv:vld c.Text[i] with
     | true=>exact .inl ⟨by simp,by rw [cL _ _ _ hi,hI,hv]; rfl⟩
     | false=>exact .inr ⟨.inl false,by simp,(cY hi hv).symm⟩)
    (fun hI=>⟨.inr (),by simp,by simpa using hI⟩)
   rw [h3];simp only [bsm];have e4:(decide (c.Kind=1) || decide (c.Kind=2))=true:=by simp; exact h2.1
   rw [e4,fB h2.2.1,fB h2.2.2]
   cases t with
   | inl b=>simp only at h4; simp [h4]
   | inr u=>simp only at h4; simp [h4]
  ·have e2:(((c.Kind != 1 && c.Kind != 2) || decide ((c.Text.length:Int) < 1)) || decide ((c.Text.length:Int) > 16))=true:=by
    simp; omega
   rw [ao e2]
   congr 1
   symm
   simp only [Bool.and_eq_false_iff,Bool.or_eq_false_iff,cW];omega
theorem ei (r:Int):aZ r=some (!vld r):=by simp [aZ,eP]
theorem dI (l:List Int) (hl:l.length≤9223372036854775807):ah l=some (!l.all vld):=by
 unfold ah am;obtain ⟨t,h3,h4⟩:=bX (τ:=Int ⊕ Unit) (n:=l.length) (by omega) (fun t=>match t with | .inl i=>0≤i∧l.all vld=false | .inr _=>l.all vld=true) (fun i=>(l.take i).all vld=true) (by simp)
  (step:=fun s_7=>
   if (decide (s_7 < (l.length:Int)))=true then
   (idx l s_7).bind fun x_16=>
   (aZ x_16).bind fun x_18=>
   if x_18=true then
   some (.inr (.inl s_7))
   else
   some (.inl ((w64 (s_7+1))))
   else
   some (.inr (.inr ())))
  (fun i hi hI=>by
   have e3:w64 ((i:Int)+1)=((i+1:Nat):Int):=by rw [bW (by omega)]; simp
   simp only [bK,hi,bQ,dc,bi hi,bsm,ei,e3]
   cases hv:vld l[i] with
   | true=>exact .inl ⟨by simp,by rw [cL _ _ _ hi,hI,hv]; rfl⟩
   | false=>exact .inr ⟨.inl i,by simp,by omega,cY hi hv⟩)
  (fun hI=>⟨.inr (),by simp,by simpa using hI⟩)
 rw [h3];simp only [bsm]
 cases t with
 | inl b=>simp only at h4; simp [h4.1,h4.2]
 | inr u=>simp only at h4; simp [h4]
theorem eu (c:aa):br c=some (rgt c):=by
 unfold br rgt;by_cases h1:c.Kind=0∨c.Kind=3
 ·rw [ao h1];rcases h1 with h | h <;> simp [h,di]
 ·have n0:(c.Kind==0)=false:=by simp; omega
  have n3:(c.Kind==3)=false:=by simp; omega
  rw [aK h1];simp only [n0,n3,Bool.false_eq_true,if_false,bsm];by_cases h2:c.Kind=1∨c.Kind=2
  ·have e:(if (c.Kind==1)=true then some (c.Kind==1) else some (c.Kind==2):Option Bool)=some true:=by rcases h2 with h | h <;> simp [h]
   have e2:(decide (c.Kind=1) || decide (c.Kind=2))=true:=by simp; exact h2
   rw [e,e2];simp only [bsm,dc,ck,Bool.true_and];by_cases h3:1≤c.Text.length∧c.Text.length≤16
   ·rw [dI _ (by omega)];have e4:(decide ((c.Text.length:Int) > 0) && decide ((c.Text.length:Int)≤16))=true:=by simp; omega
    have e5:(decide (1≤c.Text.length) && decide (c.Text.length≤16))=true:=by simp; exact h3
    rw [e4,e5];simp [ff]
   ·have e4:(decide ((c.Text.length:Int) > 0) && decide ((c.Text.length:Int)≤16))=false:=by simp; omega
    have e5:(decide (1≤c.Text.length) && decide (c.Text.length≤16))=false:=by simp; omega
    rw [e4,e5];simp [ey]
  ·have n1:(c.Kind==1)=false:=by simp; omega
   have n2:(c.Kind==2)=false:=by simp; omega
   have e2:(decide (c.Kind=1) || decide (c.Kind=2))=false:=by simp; omega
   rw [e2];simp [n1,n2]
def kd (l:List aa) (i:Nat):Int:=match l[i]? with | some c=>c.Kind | none=>0
theorem dh {l:List aa} {i:Nat} (h:i < l.length):kd l i=l[i].Kind:=by simp [kd,ab h]
theorem fy {l:List aa} {i:Nat} (h:l.length≤i):kd l i=0:=by simp [kd,aQ h]
def Snd (l:List aa):Prop:=∀i (h:i < l.length),rgt l[i]=true∧(l[i].Kind=2→kd l (i+1)=3)∧(l[i].Kind=3→0 < i∧kd l (i - 1)=2)
theorem fu (l:List aa) (i:Int):au l i=some (if 0≤i then kd l i.toNat else 0):=by
 unfold au;simp only [aX,bsm];by_cases h0:i < 0
 ·rw [ao (by simp [h0]),aK (by omega)]
 ·by_cases h1:i < l.length
  ·obtain ⟨k,rfl⟩:=Int.eq_ofNat_of_zero_le (show 0≤i by omega);have hk:k < l.length:=by omega
   rw [aK (by simp; omega),ao (by omega),bi hk];simp [dh hk]
  ·rw [ao (by simp; omega),ao (by omega),fy (by omega)]
theorem eY (l:List aa) (hl:l.length≤9223372036854775807):∃b,aI l=some b∧(b=true↔Snd l):=by
 unfold aI;obtain ⟨t,h3,h4⟩:=bX (τ:=Bool ⊕ Unit) (n:=l.length) (by omega) (fun t=>match t with | .inl b=>b=false∧¬Snd l | .inr _=>Snd l)
  (fun i=>∀j (h:j < l.length),j < i→rgt l[j]=true∧(l[j].Kind=2→kd l (j+1)=3)∧(l[j].Kind=3→0 < j∧kd l (j - 1)=2)) (fun j _ h=>by omega)
  (step:=fun s_5=>
   if (decide (s_5 < (l.length:Int)))=true then
   (idx l s_5).bind fun x_13=>
   (aA x_13).bind fun x_15=>
   (orE (!x_15) ((idx l s_5).bind fun x_21=>
   (ce (x_21.Kind==2) ((au l (w64 (s_5+1))).bind fun x_30=>
   some (x_30 != 3))).bind fun d_25=>
   some d_25)).bind fun d_17=>
   (orE d_17 ((idx l s_5).bind fun x_36=>
   (ce (x_36.Kind==3) ((au l (w64 (s_5 - 1))).bind fun x_45=>
   some (x_45 != 2))).bind fun d_40=>
   some d_40)).bind fun d_32=>
   if d_32=true then
   some (.inr (.inl false))
   else
   some (.inl ((w64 (s_5+1))))
   else
   some (.inr (.inr ())))
  (fun i hi hI=>by
   have e3:w64 ((i:Int)+1)=((i+1:Nat):Int):=by rw [bW (by omega)]; simp
   have e4:w64 ((i:Int) - 1)=(i:Int) - 1:=bW (by omega);simp only [bK,hi,bQ,dc,bi hi,bsm,eZ,fu,e3,e4,ck,aX];by_cases hk:rgt l[i]=true∧(l[i].Kind=2→kd l (i+1)=3)∧(l[i].Kind=3→0 < i∧kd l (i - 1)=2)
   ·refine .inl ⟨?_,fun j h hj=>?_⟩
    ·rw [aK];obtain ⟨h1,h2,h5⟩:=hk;simp only [h1,dQ,gd,aG,ax,cc,bne_iff_ne,ne_eq,not_or,not_and,Decidable.not_not];refine ⟨fun h=>?_,fun h=>?_⟩
     ·rw [ao (by omega)]; simpa using h2 h
     ·obtain ⟨h6,h7⟩:=h5 h;rw [ao (by omega),show ((i:Int) - 1).toNat=i - 1 by omega]; exact h7
    ·by_cases hji:j=i
     ·subst hji; exact hk
     ·exact hI j h (by omega)
   ·refine .inr ⟨.inl false,?_,rfl,fun hs=>hk (hs i hi)⟩;rw [ao]
    cases h1:rgt l[i] with
    | false=>simp
    | true=>
     simp only [h1,true_and] at hk;have hk:(l[i].Kind=2∧¬kd l (i+1)=3)∨(l[i].Kind=3∧¬(0 < i∧kd l (i - 1)=2)):=by
      by_cases hA:l[i].Kind=2→kd l (i+1)=3
      ·exact .inr (Classical.not_imp.1 fun hB=>hk ⟨hA,hB⟩)
      ·exact .inl (Classical.not_imp.1 hA)
     simp only [dQ,gd,aG,ax,cc,bne_iff_ne,ne_eq];rcases hk with ⟨h,h2⟩ | ⟨h,h2⟩
     ·refine .inl ⟨h,?_⟩;rw [ao (by omega)]; simpa using h2
     ·refine .inr ⟨h,?_⟩;by_cases h0:i=0
      ·subst h0; simp
      ·rw [ao (by omega),show ((i:Int) - 1).toNat=i - 1 by omega];exact fun h3=>h2 ⟨by omega,h3⟩)
  (fun hI=>⟨.inr (),by simp,fun j h=>hI j h h⟩)
 rw [h3];simp only [bsm]
 cases t with
 | inl b=>exact ⟨b,rfl,by simp only at h4; rw [h4.1]; simp [h4.2]⟩
 | inr u=>exact ⟨true,rfl,by simpa using h4⟩
theorem dy (l:List aa) (hl:l.length≤9223372036854775807):∃b,bq l=some b∧(b=true↔Snd l):=by
 unfold bq
 let ld:Nat→Bool:=fun i=>match i with | 0=>false | k+1=>decide (kd l k=2)
 have key:∀i (h:i < l.length),((rgt l[i]=true∧(ld i=decide (l[i].Kind=3)))↔rgt l[i]=true∧(l[i].Kind=3→0 < i∧kd l (i - 1)=2)∧(0 < i→kd l (i - 1)=2→l[i].Kind=3)):=fun i h=>by
  cases i with
  | zero=>simp [ld]
  | succ k=>simp only [ld,ib,decide_eq_decide]; constructor <;> (rintro ⟨a,b⟩; exact ⟨a,by omega⟩)
 have snd:Snd l↔(∀i (h:i < l.length),rgt l[i]=true∧ld i=decide (l[i].Kind=3))∧ld l.length=false:=by
  constructor
  ·intro hs;refine ⟨fun i h=>(key i h).2 ⟨(hs i h).1,(hs i h).2.2,fun h0 h2=>?_⟩,?_⟩
   ·have:=(hs (i - 1) (by omega)).2.1 (by rw [←dh]; exact h2);rw [show i - 1+1=i by omega,dh h] at this;exact this
   ·cases hn:l.length with
    | zero=>rfl
    | succ k=>
     simp only [ld,cW];intro h2;have:=(hs k (by omega)).2.1 (by rw [←dh]; exact h2);rw [fy (by omega)] at this;cases this
  ·rintro ⟨h1,h2⟩ i h;have hk:=(key i h).1 (h1 i h);refine ⟨hk.1,fun h3=>?_,hk.2.1⟩;by_cases hn:i+1 < l.length
   ·have:=((key (i+1) hn).1 (h1 (i+1) hn)).2.2 (by omega) (by rw [ib,dh h]; exact h3);rw [dh hn]; exact this
   ·exfalso
    have e:l.length=i+1:=by omega
    rw [e] at h2;simp only [ld,cW] at h2;rw [dh h] at h2;exact h2 h3
 obtain ⟨t,h3,h4⟩:=dv (τ:=Bool ⊕ Bool) (fun s:Bool×Int=>∃i:Nat,s=(ld i,(i:Int))∧i≤l.length∧∀j (h:j < l.length),j < i→rgt l[j]=true∧ld j=decide (l[j].Kind=3)) (fun s=>l.length - s.2.toNat)
  (fun t=>match t with | .inl b=>b=false∧¬Snd l | .inr b=>(b=false↔Snd l))
  (step:=fun s_9=>
   if (decide (s_9.2 < (l.length:Int)))=true then
   (idx l s_9.2).bind fun x_12=>
   (br x_12).bind fun x_18=>
   (orE (!x_18) (some (!(s_9.1==(x_12.Kind==3))))).bind fun d_20=>
   if d_20=true then
   some (.inr (.inl false))
   else
   some (.inl (x_12.Kind==2,(w64 (s_9.2+1))))
   else
   some (.inr (.inr (s_9.1))))
  (by
   rintro s ⟨i,rfl,hi,hI⟩;rcases aw i l.length with hlt | hge
   ·have e3:w64 ((i:Int)+1)=((i+1:Nat):Int):=by rw [bW (by omega)]; simp
    simp only [bK,hlt,bQ,dc,bi hlt,bsm,eu,aX,e3];by_cases hk:rgt l[i]=true∧ld i=decide (l[i].Kind=3)
    ·refine .inl ⟨_,?_,⟨i+1,rfl,hlt,fun j h hj=>?_⟩,?_⟩
     ·rw [aK]
      ·simp only [ld,dh hlt]; rfl
      ·rw [hk.1,hk.2]; simp; rfl
     ·by_cases hji:j=i
      ·subst hji; exact hk
      ·exact hI j h (by omega)
     ·simp; omega
    ·refine .inr ⟨.inl false,?_,rfl,fun hs=>hk ((snd.1 hs).1 i hlt)⟩;rw [ao]
     cases h1:rgt l[i] with
     | false=>simp
     | true=>
      simp only [h1,true_and] at hk;simp only [dQ,gd,cP,gS,ne_eq];exact hk
   ·obtain rfl:i=l.length:=by omega
    refine .inr ⟨.inr (ld l.length),by simp,?_⟩;simp only;rw [snd];exact ⟨fun h=>⟨fun j hj=>hI j hj hj,h⟩,fun h=>h.2⟩) (((l.length:Int) - 0).toNat+1) (false,0) ⟨0,rfl,bf _,fun j _ h=>by omega⟩ (by simp)
 rw [h3];simp only [bsm]
 cases t with
 | inl b=>exact ⟨b,rfl,by simp only at h4; rw [h4.1]; simp [h4.2]⟩
 | inr b=>exact ⟨!b,rfl,by simp only at h4; rw [←h4]; cases b <;> simp⟩
theorem eQ (a:List Int) (ha:a.length≤9223372036854775807) (b:List Int):∃t,aE a b=some t∧(t=true↔a=b):=by
 unfold aE;by_cases hl:a.length=b.length
 ·rw [aK (by simp [hl])];obtain ⟨t,h3,h4⟩:=bX (τ:=Bool ⊕ Unit) (n:=a.length) (by omega) (fun t=>match t with | .inl b'=>b'=false∧a≠b | .inr _=>a=b) (fun i=>∀j,j < i→a[j]? = b[j]?) (fun j h=>by omega)
   (step:=fun s_13=>
    if (decide (s_13 < (a.length:Int)))=true then
    (idx a s_13).bind fun x_21=>
    (idx b s_13).bind fun x_25=>
    if (x_21 != x_25)=true then
    some (.inr (.inl false))
    else
    some (.inl ((w64 (s_13+1))))
    else
    some (.inr (.inr ())))
   (fun i hi hI=>by
    have e3:w64 ((i:Int)+1)=((i+1:Nat):Int):=by rw [bW (by omega)]; simp
    simp only [bK,hi,bQ,dc,bi hi,bi (show i < b.length by omega),bsm,e3];by_cases hk:a[i]=b[i]
    ·refine .inl ⟨by rw [aK (by simp [hk])],fun j hj=>?_⟩;by_cases hji:j=i
     ·subst hji; rw [ab hi,ab (show j < b.length by omega),hk]
     ·exact hI j (by omega)
    ·exact .inr ⟨.inl false,by rw [ao (by simpa using hk)],rfl,fun e=>hk (by subst e; rfl)⟩)
   (fun hI=>⟨.inr (),by simp,by
    apply cO;intro j;rcases aw j a.length with h | h
    ·exact hI j h
    ·rw [aQ h,aQ (by omega)]⟩)
  rw [h3];simp only [bsm]
  cases t with
  | inl b'=>exact ⟨b',rfl,by simp only at h4; rw [h4.1]; simp [h4.2]⟩
  | inr u=>exact ⟨true,rfl,by simpa using h4⟩
 ·rw [ao (by simp; omega)];exact ⟨false,rfl,by simp; intro e; subst e; exact hl rfl⟩
def Sht (l:List aa):Prop:=∀i (h:i < l.length),l[i].Text.length≤1000000
theorem Snd.sht {l:List aa} (h:Snd l):Sht l:=fun i hi=>by
 have:=(h i hi).1;unfold rgt at this;split at this
 ·have e:l[i].Text= []:=by simpa using this
  rw [e]; simp
 ·simp at this; omega
theorem eq (a:List aa) (ha:a.length≤9223372036854775807) (hs:Sht a) (b:List aa):∃t,aD a b=some t∧(t=true↔a=b):=by
 unfold aD;by_cases hl:a.length=b.length
 ·rw [aK (by simp [hl])];obtain ⟨t,h3,h4⟩:=bX (τ:=Bool ⊕ Unit) (n:=a.length) (by omega) (fun t=>match t with | .inl b'=>b'=false∧a≠b | .inr _=>a=b) (fun i=>∀j,j < i→a[j]? = b[j]?) (fun j h=>by omega)
   (step:=fun s_13=>
    if (decide (s_13 < (a.length:Int)))=true then
    (idx a s_13).bind fun x_21=>
    (idx b s_13).bind fun x_26=>
    (orE (x_21.Kind != x_26.Kind) ((idx a s_13).bind fun x_34=>
    (idx b s_13).bind fun x_39=>
    (aE x_34.Text x_39.Text).bind fun x_42=>
    some (!x_42))).bind fun d_30=>
    if d_30=true then
    some (.inr (.inl false))
    else
    some (.inl ((w64 (s_13+1))))
    else
    some (.inr (.inr ())))
   (fun i hi hI=>by
    have e3:w64 ((i:Int)+1)=((i+1:Nat):Int):=by rw [bW (by omega)]; simp
    obtain ⟨t,ht,ht2⟩:=eQ a[i].Text (by have:=hs i hi; omega) b[i].Text;simp only [bK,hi,bQ,dc,bi hi,bi (show i < b.length by omega),bsm,e3,ht,aX];by_cases hk:a[i]=b[i]
    ·refine .inl ⟨by rw [aK (by rw [ht2.2 (by rw [hk])]; simp [hk])],fun j hj=>?_⟩;by_cases hji:j=i
     ·subst hji; rw [ab hi,ab (show j < b.length by omega),hk]
     ·exact hI j (by omega)
    ·refine .inr ⟨.inl false,?_,rfl,fun e=>hk (by subst e; rfl)⟩;rw [ao];by_cases hkk:a[i].Kind=b[i].Kind
     ·have:t=false:=by
       cases t with
       | false=>rfl
       | true=>exact absurd (fC hkk (ht2.1 rfl)) hk
      simp [this]
     ·simp [hkk])
   (fun hI=>⟨.inr (),by simp,by
    apply cO;intro j;rcases aw j a.length with h | h
    ·exact hI j h
    ·rw [aQ h,aQ (by omega)]⟩)
  rw [h3];simp only [bsm]
  cases t with
  | inl b'=>exact ⟨b',rfl,by simp only at h4; rw [h4.1]; simp [h4.2]⟩
  | inr u=>exact ⟨true,rfl,by simpa using h4⟩
 ·rw [ao (by simp; omega)];exact ⟨false,rfl,by simp; intro e; subst e; exact hl rfl⟩
theorem eS {a:List aa} (ha:a.length≤9223372036854775807) (hs:Sht a):aD a a=some true:=by
 obtain ⟨t,h1,h2⟩:=eq a ha hs a;rw [h1,h2.2 rfl]
end Go.Proofs.YtmncdniojmigeaaDoor
namespace Go.Proofs.YtmncdniojmigeaaDoor
open Go Go.Lt
def Sto.sr (s:Sto) (k:Nat) (x:az):Sto:={ s with row_Row:=s.row_Row.set k x}
theorem gr {α:Type} {l:List α} {k:Nat} {x:α} (h:l[k]? = some x):k < l.length:=(List.getElem?_eq_some_iff.1 h).1
theorem fI {s:Sto} {k:Nat} {x:az} (h:k < s.row_Row.length):s.set_row_Row k x=some (s.sr k x):=by
 unfold Sto.set_row_Row;rw [ao h];rfl
theorem eL (s:Sto) (x:az):(s.add_row_Row x).row_Row[s.row_Row.length]? = some x:=by simp [Sto.add_row_Row]
theorem gw (s:Sto) (x y:az):(s.add_row_Row x).sr s.row_Row.length y=s.add_row_Row y:=by simp [Sto.sr,Sto.add_row_Row]
variable {s:Sto} {k:Nat} {l:List aa} {w:Bool}
theorem dZ (h:s.row_Row[k]? = some ⟨l,w⟩):aL s (some k)=some (l.length:Int):=by simp [aL,h]
theorem dS {c:aa} (h:c.Text.length≤1000000):bA c=some c:=by
 simp only [bA,bE,dV (show ([]:List Int).length+c.Text.length≤1099511627776 by simp; omega),bsm,dk]
theorem eW (h:s.row_Row[k]? = some ⟨l,w⟩) (hl:l.length≤1000000) (hs:Sht l):aC s (some k)=some l:=by
 unfold aC;rw [dZ h];simp only [bsm];rw [eF (s:=(([]:List aa),(0:Int))) (t:=l) (fun st:List aa×Int=>∃i:Nat,st=(l.take i,(i:Int))∧i≤l.length) (fun st=>l.length - st.2.toNat) ?_ ⟨0,rfl,bf _⟩ (by simp)]
 ·rfl
 ·rintro st ⟨i,rfl,hi⟩;rcases aw i l.length with hlt | hge
  ·refine .inl ⟨(l.take (i+1),((i+1:Nat):Int)),?_,⟨i+1,rfl,hlt⟩,by simp; omega⟩;have e3:w64 ((i:Int)+1)=((i+1:Nat):Int):=by rw [bW (by omega)]; simp
   simp only [bK,hlt,bQ,dc,bsm,h,bi hlt,dS (hs i hlt),e3];rw [dV (by rw [an]; simp; omega),bg hlt];rfl
  ·obtain rfl:i=l.length:=by omega
   exact .inr (by simp)
theorem fr (h:s.row_Row[k]? = some ⟨l,w⟩) {i:Nat} (hi:i < l.length) (hs:Sht l):aY s (some k) i=some (l[i],true):=by
 unfold aY;rw [dZ h];simp only [bsm,aX];rw [aK (by simp; omega)];simp only [h,bsm,bi hi,dS (hs i hi)]
def sd (n:Int):Nat:=(max 1 (min n 1024)).toNat
theorem gI {n:Nat} (h:1≤n) (h2:n≤1024):sd n=n:=by unfold sd; omega
theorem gv (n:Int):bw n=some (List.replicate (max 0 (min n 1024)).toNat bl):=by
 unfold bw;simp only [eG,fW];rw [gn _ (by omega)];rfl
theorem fK (n:Int):bV s n=some (s.add_row_Row ⟨List.replicate (sd n) bl,false⟩,some s.row_Row.length):=by
 unfold bV;rw [gv];simp only [bsm,eG];rw [show (max 0 (min (max 1 n) 1024)).toNat=sd n by unfold sd; omega]
theorem fq (hl:1≤l.length) (hl2:l.length≤1024) (hs:Snd l):bG s l=some (s.add_row_Row ⟨l,false⟩,some s.row_Row.length,Er.nil):=by
 unfold bG;obtain ⟨b,h1,h2⟩:=dy l (by omega);have hb:b=true:=h2.2 hs;subst hb;simp only [aX,bsm,h1];rw [aK (by rw [aG,cc,be]; omega),aK (by simp),fK,gI hl hl2];simp only [bsm];rw [eF (s:=((0:Int),s.add_row_Row ⟨List.replicate l.length bl,false⟩)) (t:=s.add_row_Row ⟨l,false⟩) (fun st:Int×Sto=>∃i:Nat,st=((i:Int),s.add_row_Row ⟨l.take i++List.replicate (l.length - i) bl,false⟩)∧i≤l.length) (fun st=>l.length - st.1.toNat) ?_ ⟨0,by simp,bf _⟩ (by simp)]
 ·rfl
 ·rintro st ⟨i,rfl,hi⟩;rcases aw i l.length with hlt | hge
  ·refine .inl ⟨_,?_,⟨i+1,rfl,hlt⟩,by simp; omega⟩;have e3:w64 ((i:Int)+1)=((i+1:Nat):Int):=by rw [bW (by omega)]; simp
   have hlen:(l.take i++List.replicate (l.length - i) bl).length=l.length:=by simp; omega
   simp only [bK,hlt,bQ,dc,bi hlt,bsm,eL,dS (hs.sht i hlt),e3];rw [bi (show i < (l.take i++List.replicate (l.length - i) bl).length by omega)];simp only [bsm];rw [fl (show i < (l.take i++List.replicate (l.length - i) bl).length by omega)];simp only [bsm];rw [fI (gr (eL _ _)),gw];simp only [bsm];have:(l.take i++List.replicate (l.length - i) bl).set i l[i]=l.take (i+1)++List.replicate (l.length - (i+1)) bl:=by
    rw [gB _ _ (by rw [an]; omega),an,dj hi,el,show l.length - i=(l.length - (i+1))+1 by omega,List.replicate_succ,List.set_cons_zero,bg hlt,aS];rfl
   rw [this]
  ·obtain rfl:i=l.length:=by omega
   exact .inr (by simp)
theorem ec (hl:1≤l.length) (hl2:l.length≤1024) (hs:¬Snd l):bG s l=some (s,none,Er.sent 1):=by
 unfold bG;obtain ⟨b,h1,h2⟩:=dy l (by omega);have hb:b=false:=by cases b with | false=>rfl | true=>exact absurd (h2.1 rfl) hs
 subst hb;simp only [aX,bsm,h1];rw [aK (by rw [aG,cc,be]; omega),ao (by simp)]
end Go.Proofs.YtmncdniojmigeaaDoor
namespace Go.Proofs.YtmncdniojmigeaaDoor
open Go Go.Lt
theorem fT {e:List aa} {U:Sto×(Option Nat)×Er} (hl:e.length≤9223372036854775807) (h:bG ⟨[]⟩ e=some U) (hn:U.2.2.isNil=true):U=(⟨[⟨e,false⟩]⟩,some 0,Er.nil):=by
  by_cases h1:1≤e.length∧e.length≤1024
  · by_cases hs:Snd e
    · rw [fq h1.1 h1.2 hs] at h
      exact (ag h).symm
    · rw [ec h1.1 h1.2 hs] at h
      rw [←ag h] at hn;cases hn
  · exfalso
    unfold bG at h;rw [show orE ((e.length:Int)==0) (some (decide ((e.length:Int) > 1024)))=some true by
      rw [aX]
      congr 1
      rw [aG,cc,be];omega,bsm,ao rfl] at h
    rw [←ag h] at hn;cases hn
def dL (p0:List aa):Option Bool:=
 (aj ⟨[]⟩).bind fun g=>
 (orE (!g.2) (some (decide ((p0.length:Int) > 200)))).bind fun x=>
 (orE x ((aI p0).bind fun p=>
 some (!p))).bind fun n=>
 (orE n (some ((p0.length:Int)==0))).bind fun o=>
 if o=true then
 (aj g.1).bind fun f=>
 some f.2
 else
 (bN (σ:=(List aa)×Int) (τ:=(List aa)) (((p0.length:Int) - 0).toNat+1) (fun d=>
 if (decide (d.2 < (p0.length:Int)))=true then
 (idx p0 d.2).bind fun q=>
 (idx p0 d.2).bind fun r=>
 (app ([]:List Int) r.Text).bind fun s=>
 (app d.1 ([(⟨q.Kind,s⟩:aa)]:List aa)).bind fun t=>
 some (.inl (t,(w64 (d.2+1))))
 else
 some (.inr (d.1))) (([]:List aa),0)).bind fun e=>
 (bG ⟨[]⟩ e).bind fun b=>
 if (!b.2.2.isNil)=true then
 some false
 else
 (aC b.1 b.2.1).bind fun u=>
 (bN (σ:=Int) (τ:=Unit) (((p0.length:Int) - 0).toNat+1) (fun c=>
 if (decide (c < (p0.length:Int)))=true then
 (aY b.1 b.2.1 c).bind fun v=>
 (idx p0 c).bind fun h=>
 (bN (σ:=Int×(List Int)) (τ:=(List Int)) (((h.Text.length:Int) - 0).toNat+1) (fun a=>
 (idx p0 c).bind fun w=>
 if (decide (a.1 < (w.Text.length:Int)))=true then
 (idx e c).bind fun j=>
 (idx j.Text a.1).bind fun y=>
 (idx u c).bind fun k=>
 (idx k.Text a.1).bind fun z=>
 (idx a.2 a.1).bind fun A=>
 (cJ a.2 a.1 3).bind fun i=>
 some (.inl ((w64 (a.1+1)),i))
 else
 some (.inr (a.2))) (0,v.1.Text)).bind fun E=>
 some (.inl ((w64 (c+1))))
 else
 some (.inr ())) (0)).bind fun D=>
 (aC b.1 b.2.1).bind fun l=>
 (aD l p0).bind fun m=>
 some m
set_option maxRecDepth 10000
set_option linter.unusedVariables false
attribute [local irreducible] W WL AC
open Tryd
variable {c0:Cx} {G:Gm} {F:List En} {v1 v2 v3:Value}
theorem gO (O0:Own c0 G F) (hA:∀b o,¬c0.A b o) (ht0:∀g k,c0.t g k=none) (R0:Rel c0 ⟨[]⟩ G) (hG:Gl [0,1] c0) (y:List aa) {r:Bool} (s:Sl ac c0 v1 y) (H:dL y=some r):
    Calls prog 3 #[v1] c0.w (bu c0 fun c v=>∃Gx:Gm,Own c Gx (F)∧v=B r):=by
 unfold dL at H
 have hyl:=s.len_le
 refine en func3 rfl rfl (sr (va (B false) (wln (W.seq (W.seq (bn H fun p2 h3 H=>bn H fun d_5 h4 H=>bn H fun y8 h5 H=>bn H fun t4 h6 H=>W.join (Jn c0 fun c l=>∃Gx,Own c Gx (F)∧l= [(0,v1),(28,B t4)]∧Rel c p2.1 Gx) ?_ ?_))))))
 ·clear H
  refine W.region (cl (bL O0 R0 (hG.le (by decide)) h3) ?_)
  rintro v12 b3 l11 ⟨G7,O8,R9,rfl⟩
  refine va (B (!p2.2)) ?_
  rcases bo (!p2.2) with a0 | a0
  ·obtain rfl:=orT a0 h4
   refine vb a0 (pz (ps (va (B true) ?_)))
   have d3:true=true:=rfl
   obtain rfl:=orT d3 h5
   refine vb d3 (pz (ps (va (B true) ?_)))
   have e3:true=true:=rfl
   obtain rfl:=orT e3 h6
   exact vb e3 (pz (ps (va (B true) (wln (jn b3 ⟨G7,O8,rfl,R9⟩)))))
  have o6:=orF a0 h4
  refine vb a0 (wa (v1) (wn (vx (ln 3 aO s.m) (wa (B (decide ((y.length:Int) > 200))) ?_))))
  obtain rfl:=si o6
  refine va (B (decide ((y.length:Int) > 200))) ?_
  rcases bo (decide ((y.length:Int) > 200)) with b0 | b0
  ·obtain rfl:=orT b0 h5
   refine vb b0 (pz (ps (va (B true) ?_)))
   have f3:true=true:=rfl
   obtain rfl:=orT f3 h6
   exact vb f3 (pz (ps (va (B true) (wln (jn b3 ⟨G7,O8,rfl,R9⟩)))))
  have h1:=orF b0 h5
  refine vb b0 (wa (v1) (wn (bn h1 fun y0 f7 h1=>cl (cw O8 y s.m f7) ?_)))
  rintro v26 c3 l25 ⟨x2,rfl⟩
  refine wa (B (!y0)) ?_
  obtain rfl:=si h1
  refine va (B (!y0)) ?_
  rcases bo (!y0) with d0 | d0
  ·obtain rfl:=orT d0 h6
   exact vb d0 (pz (ps (va (B true) (wln (jn c3 ⟨G7,x2,rfl,R9.m⟩)))))
  have p6:=orF d0 h6
  refine vb d0 (wa (v1) (wn (vx (ln 3 aO s.m) (wa (B ((y.length:Int)==0)) ?_))))
  obtain rfl:=si p6
  exact va (B ((y.length:Int)==0)) (wln (jn c3 ⟨G7,x2,rfl,R9.m⟩))
 rintro e_ w_ ⟨a1,g30,_,rfl,m2,rfl,w2,y2,rfl,a3⟩
 refine nrm (cn H (fun g7 H=>?_) (fun g7 H=>?_))
 ·refine sr (bn H fun k6 h7 H=>cl (bL y2 a3 (hG.m.le (by decide)) h7) ?_)
  rintro v42 y6 l41 ⟨n6,q6,x6,rfl⟩
  refine va (B k6.2) (wln (W.ret (thr ?_)))
  obtain rfl:=si H
  exact r1 (qq y6 ⟨n6,q6,rfl⟩)
 obtain ⟨a1',w2',ha1,m2',y2',a3'⟩:∃(a:Cx) (w:Gm),a.w=a1.w∧c0.le a∧Own a w F∧Rel a ⟨[]⟩ w:=⟨⟨a1.w,a1.A,fun _ _=>none⟩,fun _ _=>[],rfl,fb m2 ht0,y2.forget,ft⟩
 rw [←ha1]
 clear ha1 m2 y2 a3
 refine W.skip (nrm (sr (va (Y) (wln (W.seq (sr (va (I 0) (wln (W.block (bn H fun x g3 a=>lp g3 (fun g=>Jn a1' fun c l=>∃v45 d1 hs TE,Own c w2' (es true R_H v45 27 d1 hs :: (TE++F))∧l= [(0,v1),(3,v45),(4,I g.2)]∧OA R_H c v45 d1 hs∧HT hs TE g.1) (fun b1 ex e w=>ex= .exit 0∧(Jn a1' fun c l=>∃v47 z hs TE,Own c w2' (es true R_H v47 27 z hs :: (TE++F))∧l= [(0,v1),(3,v47)]∧OA R_H c v47 z hs∧HT hs TE b1) e w) ?_ ?_ ?_))))))))))
 ·clear a g3
  intro g o3 Z e0 H
  revert Z e0
  rintro e_ w_ ⟨z6,g50,_,rfl,m3,rfl,v45,d1,hs,TE,z2,rfl,i3,T⟩
  refine W.seq (sr (va (I g.2) (va (v1) (vx (ln 3 aO s.m) (va (B (decide (g.2 < (y.length:Int)))) (wln (cn H (fun j7 H=>?_) (fun j7 H=>?_))))))))
  ·refine W.skip (nrm (W.seq (W.block (rD [] (Kp G0 []) z2 ?_))))
   intro a7 n3 r6
   have p59:Kp G0 [] a7:=Kp.nil0
   refine ta 0 (v45) (ta 1 (v1) (ta 2 (I g.2) (bn H fun z0 j3 H=>?_)))
   obtain ⟨o9,k7,t7⟩:=Sl.at (s.mono (m2'.trans (m3.trans n3))) (aH j3)
   obtain ⟨v64,rfl,h65⟩:=k7
   refine tx 3 (fun c' i2=>ix aO s.m j3) (ta 4 (Qo (sb v1) (so v1+g.2.toNat * 2)) (tx 5 (fun c' i2=>l1 u_3 ((mm t7) 0 _ rfl)) (ta 7 (v1) (ta 8 (I g.2) (bn H fun x_42 k3 H=>?_)))))
   obtain ⟨p9,l7,u7⟩:=Sl.at (s.mono (m2'.trans (m3.trans n3))) (aH k3)
   obtain ⟨v70,rfl,m7⟩:=l7
   refine tx 9 (fun c' i2=>ix aO s.m k3) (ta 10 (Qo (sb v1) (so v1+g.2.toNat * 2+1)) (tx 11 (fun c' i2=>l1 aV ((mm u7) 1 _ rfl)) (o1 6 (gm 6 (sl (RI .i32) 21 [] ([]:List Int) r6 trivial) ?_))))
   rintro v76 b7 l75 ⟨u73,s6,n7⟩
   have v7:Kp G0 [] b7:=Kp.nil0
   refine ⟨.inr v7,bn H fun l6 o7 H=>o1 12 (gm 12 (ap (RI .i32) (J 0) 4 25 0 s6 n7 m7.m o7 aV) ?_)⟩
   rintro v83 c7 l82 ⟨u80,t6,l3⟩
   have w7:Kp G0 [] c7:=Kp.nil0
   refine ⟨.inr w7,?_⟩
   obtain ⟨s1,t1,u1,rfl⟩:=(l3).form
   refine ta 13 (.agg #[I z0.Kind,.slice s1 t1 u1]) ?_
   obtain ⟨d7,q7,s7,u6,p7⟩:=t6.frz 0 rfl l3
   have x7:Kp G0 [] d7:=Kp.nil0
   refine AC.gh q7 s7 (fun _=>x7) (o1 14 (gm 14 (sl R_H 27 [[I z0.Kind,.slice s1 t1 u1]] ([(z0.Kind,.slice s1 t1 u1)]:List (Int×Value)) u6 ⟨⟨rfl,rfl⟩,trivial⟩) ?_))
   rintro v97 e7 l96 ⟨u94,v6,r7⟩
   have y7:Kp G0 [] e7:=Kp.nil0
   refine ⟨.inr y7,?_⟩
   obtain ⟨m4,v4,y5,w6,u4⟩:=v6.frz 0 rfl r7
   have e6:Kp G0 [] m4:=Kp.nil0
   refine AC.gh v4 y5 (fun _=>e6) (bn H fun x_49 w4 H=>o1 15 (gm 15 (ap R_H (.agg #[I 0,Y]) 32 22 2 w6 i3.m u4 (fD (z0.Kind,Value.slice s1 t1 u1) w4 T.1) aO) ?_))
   rintro n2 w1 g9 ⟨g6,p3,x4⟩
   have f6:Kp G0 [] w1:=Kp.nil0
   refine ⟨.inr f6,ta 16 (n2) (dn (bkn (nrm (W.region (va (I g.2) (vv (I (w64 (g.2+1))) (WL.nil ?_)))))))⟩
   obtain rfl:=si H
   refine ⟨_,rfl,?_⟩
   have q3:=p3.sD 3 [2,1]
   obtain rfl:=eK w4
   exact jn w1 ⟨n2,g6,_,es false (RI .i32) (.slice s1 t1 u1) 21 u80 l6 :: TE,q3,rfl,x4,HT.push (x:=⟨z0.Kind,l6⟩) T l3.any⟩
  refine W.exit (thx ?_)
  obtain rfl:=si H
  exact ⟨_,rfl,rfl,jn z6 ⟨v45,d1,hs,TE,z2,rfl,i3,T⟩⟩
 ·have y4:OA R_H a1' (Y) [] []:=OA.nil (bJ _)
  have s3:=y2'.addHole (e:=es true R_H (Y) 27 [] ([]:List (Int×Value))) rfl
  exact jn a1' ⟨(Y),[],[],[],s3,rfl,y4,rfl,fun i x hi hx=>by simp at hx⟩
 rintro _ e_ w_ ⟨rfl,p8,z8,_,rfl,z5,rfl,v47,z,hsin,TEi,t3,rfl,D,Ti⟩
 refine bke (nrm (sr (va (v47) ?_)))
 obtain ⟨q8,a5,j2,u3,z4⟩:=t3.frz 0 rfl D
 have zA:Sl ac q8 v47 x:=Ti.sl (Own.onM (L:=[es false R_H v47 27 z hsin]) (TE:=TEi) (F:=F) u3) z4
 refine WL.gh a5 (bn a fun U b5 a=>cl (go u3 a3'.m (hG.m.le (by decide)) x zA b5) ?_)
 rintro v9 n4 k2 ⟨h,P,n,TEr,i1,t,rfl,i0,c5,HO⟩
 refine va (.tuple #[h,P]) (va (h) (va (P) (va (h) (va (P) (wln (W.seq (sr (va (P) (vr (B (!U.2.2.isNil)) (by rcases (c5).cs with ⟨b2,g2⟩ | ⟨b_,b2,g2⟩ | ⟨b_,b2,g2⟩ <;> (subst b2; rw [g2]; kernel_rfl)) (wln (cn a (fun d5 a=>?_) (fun d5 a=>?_))))))))))))
 ·refine sr (va (B false) (wln (W.ret (thr ?_))))
  obtain rfl:=si a
  have v3:=Own.drops TEi (Own.drops TEr i1).tail
  exact r1 (qq n4 ⟨n,v3,rfl⟩)
 have hUn:U.2.2.isNil=true:=by
  cases hq:U.2.2.isNil with
  | true=>rfl
  | false=>rw [hq] at d5; cases d5
 obtain rfl:=fT zA.len_le b5 hUn
 refine W.skip (nrm (sr (va (h) (bn a fun X e5 a=>cl (fc i1 t (some 0) i0 e5) ?_))))
 rintro i g0 l2 ⟨_,M,hso,TEo,w3,rfl,j0,To⟩
 obtain ⟨bR,XR,uR,hR,eR,oR,TR⟩:=HO 0 ⟨x,false⟩ rfl rfl
 obtain ⟨g1,E0,hg1,m9,w3',Ho,Hi,mo,mi,t',i0'⟩:∃(g1:Cx) (E0:List En),g1.w=g0.w∧c0.le g1∧Own g1 n (E0++F)∧HTL hso E0 X∧HTL hsin E0 x∧es true R_H i 27 M hso∈E0∧es false R_H v47 27 z hsin∈E0∧Rel g1 ⟨[⟨x,false⟩]⟩ n∧Pt 0 g1 h (some 0):=by
  have k0:c0.le g0:=pt
  have s1:=Own.thaw (L:=[es true R_H i 27 M hso]) (TE:=TEo) (F:=TEr++(es false R_H v47 27 z hsin :: (TEi++F))) w3
  have k1:=eC k0 hA (Own.onM (L:=[es true R_H i 27 M hso]) (TE:=TEo) (F:=TEr++(es false R_H v47 27 z hsin :: (TEi++F))) w3)
  have e1: [es true R_H i 27 M hso]++(TEo.map cq++(TEr++(es false R_H v47 27 z hsin :: (TEi++F))))=(es true R_H i 27 M hso :: (TEo.map cq++(TEr++ [es false R_H v47 27 z hsin])))++(TEi++F):=by simp
  rw [e1] at s1
  have s2:=Own.thaw s1
  have k2:=eC k1 hA (Own.onM s1)
  refine ⟨eD (eD g0 TEo) TEi,(es true R_H i 27 M hso :: (TEo.map cq++(TEr++ [es false R_H v47 27 z hsin])))++TEi.map cq,rfl,k2,by rw [aS]; exact s2,To.htl fun e he=>?_,Ti.htl fun e he=>?_,?_,?_,?_,?_⟩
  · exact aJ _ (cm _ (aJ _ (List.mem_map.2 ⟨e,he,rfl⟩)))
  · exact bb _ (List.mem_map.2 ⟨e,he,rfl⟩)
  · exact aJ _ cG
  · exact aJ _ (cm _ (bb _ (bb _ cG)))
  · have e2:(es true R_H i 27 M hso :: (TEo.map cq++(TEr++ [es false R_H v47 27 z hsin])))++(TEi.map cq++F)=(es true R_H i 27 M hso :: TEo.map cq)++(TEr++([es false R_H v47 27 z hsin]++(TEi.map cq++F))):=by simp
    have s3:=s2
    rw [e2] at s3
    have hon:=Own.onM s3
    have t4:Rel g0 ⟨[⟨x,false⟩]⟩ n:=t.m
    refine ⟨⟨fun k row hk=>?_,fun k hk=>t4.row_Row.no k hk⟩⟩
    match k,hk with
    | 0,hk=>
      obtain rfl:(⟨x,false⟩:az)=row:=ag hk
      obtain ⟨b',y1,u1',q1,q2,_⟩:=t4.row_Row.ob 0 ⟨x,false⟩ rfl
      have q3:=q2
      rw [eR] at q3
      injection q3 with _ q4
      injection q4 with q4 _
      have q5:XR=y1:=cA En.v q4
      have q6:uR=u1':=cA En.vs q4
      subst q5 q6
      exact ⟨b',XR,uR,q1,q2,HT.api hon TR (oR.anyH _)⟩
    | k+1,hk=>cases hk
  · have i5:Pt 0 g0 h (some 0):=i0.m
    exact i5
 rw [←hg1]
 clear hg1 w3
 refine va (i) (wln (W.seq (sr (va (I 0) (wln (W.block (bn a fun s9 x1 p=>lp x1 (fun d=>Jn g1 fun c l=>∃E1,Own c n (E1++F)∧l= [(0,v1),(3,v47),(5,h),(7,i),(8,I d)]∧HTL hso E1 X∧HTL hsin E1 x∧es true R_H i 27 M hso∈E1∧es false R_H v47 27 z hsin∈E1) (fun f8 ex e w=>ex= .exit 2∧(Jn g1 fun c l=>Own c n (F)∧l= [(0,v1),(5,h)]) e w) ?_ ?_ ?_)))))))
 ·clear p x1
  intro d o3 Z e0 a
  revert Z e0
  rintro e_ w_ ⟨o4,a9,_,rfl,q0,rfl,E1,j1,rfl,Ho1,Hi1,mo1,mi1⟩
  refine W.seq (sr (va (I d) (va (v1) (vx (ln 3 aO s.m) (va (B (decide (d < (y.length:Int)))) (wln (cn a (fun f5 a=>?_) (fun f5 a=>?_))))))))
  ·refine W.skip (nrm (W.seq (W.block (sr (va (h) (va (I d) (bn a fun k g5 a=>cl (cC j1 t'.m (some 0) d i0'.m g5) ?_)))))))
   rintro w9 r8 s0 ⟨o2,i6,x3,rfl,k0⟩
   refine va (.tuple #[.agg #[I k.1.Kind,o2],B k.2]) (va (.agg #[I k.1.Kind,o2]) (va (B k.2) (me (al 27 [I 0,Y] x3) ?_)))
   rintro x9 s8 E ⟨A,rfl,y3⟩
   obtain ⟨n1,p1,q1,rfl⟩:=((k0.mono E)).form
   refine md (sA 27 [I k.1.Kind,.slice n1 p1 q1] 0 y3 ⟨rfl,k0.m.one,trivial⟩) ?_
   rintro h0 t0 z3
   refine va (B k.2) (wln (sr (va (I 0) (wln (W.block (bn a fun z7 _ a=>bn a fun t9 y1 g1'=>lp y1 (fun f=>Jn h0 fun c l=>∃q N E1,Own c n (es true (RI .i32) q 21 N f.2 :: (Eb A 27 [I k.1.Kind,q]) :: (E1++F))∧l= [(0,v1),(3,v47),(5,h),(7,i),(8,I d),(9,Q A),(11,I f.1)]∧OA (RI .i32) c q N f.2∧HTL hso E1 X∧HTL hsin E1 x∧es true R_H i 27 M hso∈E1∧es false R_H v47 27 z hsin∈E1) (fun c1 ex e w=>ex= .exit 4∧(Jn h0 fun c l=>∃E1,Own c n (E1++F)∧l= [(0,v1),(3,v47),(5,h),(7,i),(8,I d)]∧HTL hso E1 X∧HTL hsin E1 x∧es true R_H i 27 M hso∈E1∧es false R_H v47 27 z hsin∈E1) e w) ?_ ?_ ?_))))))
   ·clear g1' y1
    intro f o3 Z e0 a
    revert Z e0
    rintro e_ w_ ⟨p4,b9,_,rfl,u0,rfl,q,N,E2,f0,rfl,l0,Ho2,Hi2,mo2,mi2⟩
    have sP:Sl ac p4 v1 y:=s.m
    refine W.seq (sr (va (I f.1) (va (v1) (va (I d) (bn a fun m6 z1 a=>?_)))))
    obtain ⟨a8,i5,b6⟩:=Sl.at sP (aH z1)
    obtain ⟨y9,rfl,j5⟩:=i5
    refine vx (ix aO s.m z1) (va (Qo (sb v1) (so v1+d.toNat * 2+1)) (vx (l1 aV (b6 1 _ rfl)) (vx (ln 3 aV j5) (va (B (decide (f.1 < (m6.Text.length:Int)))) (wln (cn a (fun k5 a=>?_) (fun k5 a=>?_)))))))
    ·refine W.skip (nrm (W.seq (W.block (sr (va (v47) (va (I d) (bn a fun h8 m0 a=>bn a fun i8 d2 a=>?_)))))))
     obtain ⟨ga,wa_,xa,ma,ea,oa,ka,za,ha⟩:=Hi2.get m0 d2
     refine vx (ixO aO (D.anyH p4) ma) (va (Qo (sb v47) (d.toNat * 2+1)) ?_)
     obtain ⟨b8,l5,c6⟩:=OA.at (D.anyH p4) ma
     obtain ⟨rfl,c2⟩:=l5
     have on1:=Own.onM (L:=[es true (RI .i32) q 21 N f.2,Eb A 27 [I k.1.Kind,q]]) (TE:=E2) (F:=F) f0
     refine vr ga (rx (by kernel_rfl) (fV aV rfl (on1 _ mi2) (D.blk ma) (at1 (j:=1) c6 rfl))) (va (I f.1) (vx (ixO aV (oa p4) ha) (md (gJ 1 (L:=[es true (RI .i32) q 21 N f.2,Eb A 27 [I k.1.Kind,q]]) (E:=E2) (F:=F) f0 ea oa ka) ?_)))
     rintro t8 a6 ⟨E3,k1,pk1⟩
     have Ho3:=pk1.htl t8 Ho2
     have Hi3:=pk1.htl t8 Hi2
     have mo3:=pk1.keep mo2 (show (27:Nat)≠21 by decide)
     have mi3:=pk1.keep mi2 (show (27:Nat)≠21 by decide)
     refine wln (sr (va (i) (va (I d) (bn a fun j8 o0 a=>bn a fun k8 f2 a=>?_))))
     obtain ⟨gb,wb_,xb,mb,eb,ob,kb,zb,hb⟩:=Ho3.get o0 f2
     refine vx (ixO aO (j0.anyH t8) mb) (va (Qo (sb i) (d.toNat * 2+1)) ?_)
     obtain ⟨d8,n5,d6⟩:=OA.at (j0.anyH t8) mb
     obtain ⟨rfl,e2⟩:=n5
     have on2:=Own.onM (L:=[es true (RI .i32) q 21 N f.2,Eb A 27 [I k.1.Kind,q]]) (TE:=E3) (F:=F) k1
     refine vr gb (rx (by kernel_rfl) (fV aV rfl (on2 _ mo3) (j0.blk mb) (at1 (j:=1) d6 rfl))) (va (I f.1) (vx (ixO aV (ob t8) hb) (md (gJ 2 (L:=[es true (RI .i32) q 21 N f.2,Eb A 27 [I k.1.Kind,q]]) (E:=E3) (F:=F) k1 eb ob kb) ?_)))
     rintro u8 h9 ⟨E4,m1,pk2⟩
     have m1':Own u8 n (es true (RI .i32) q 21 N f.2 :: (Eb A 27 [I k.1.Kind,q]) :: (E4++F)):=m1
     refine wln (W.region (va (Qo A 1) (vx (le1 1 aV (m1'.on 1 rfl)) (va (I f.1) (bn a fun l8 p5 a=>vx (ixO aV l0.m p5) (bn a fun g8 q5 a=>md (Own.stW (R:=(RI .i32)) (T:=21) (us:=[J 3]) (x':=3) (u:=J 3) 0 m1' (by kernel_rfl) rfl l0.m q5 rfl (by kernel_rfl) ⟨rfl,trivial⟩ rfl rfl) ?_))))))
     rintro q4 i9 ⟨j6,a4,r5⟩
     refine WL.nil (bkn (nrm (W.region (va (I f.1) (vv (I (w64 (f.1+1))) (WL.nil ?_))))))
     obtain rfl:=si a
     exact ⟨_,rfl,jn q4 ⟨q,j6,E4,a4,rfl,r5,pk2.htl t8 Ho3,pk2.htl t8 Hi3,pk2.keep mo3 (show (27:Nat)≠21 by decide),pk2.keep mi3 (show (27:Nat)≠21 by decide)⟩⟩
    refine W.exit (thx ?_)
    obtain rfl:=si a
    exact ⟨_,rfl,rfl,jn p4 ⟨E2,f0.tail.tail,rfl,Ho2,Hi2,mo2,mi2⟩⟩
   ·have b4:=z3.sD 2 [1,0]
    exact jn h0 ⟨(.slice n1 p1 q1),i6,E1,b4,rfl,k0.m,Ho1,Hi1,mo1,mi1⟩
   rintro _ e_ w_ ⟨rfl,r4,c9,_,rfl,j9,rfl,E5,c4,rfl,Ho5,Hi5,mo5,mi5⟩
   refine bke (bkn (nrm (W.region (va (I d) (vv (I (w64 (d+1))) (WL.nil ?_))))))
   obtain rfl:=si g1'
   exact ⟨_,rfl,jn r4 ⟨E5,c4,rfl,Ho5,Hi5,mo5,mi5⟩⟩
  refine W.exit (thx ?_)
  obtain rfl:=si a
  exact ⟨_,rfl,rfl,jn o4 ⟨Own.drops E1 j1,rfl⟩⟩
 ·exact jn g1 ⟨E0,w3',rfl,Ho,Hi,mo,mi⟩
 rintro _ e_ w_ ⟨rfl,v8,d9,_,rfl,k9,rfl,e4,rfl⟩
 refine bke (nrm (sr (va (h) (bn p fun u2 s5 p=>cl (ct e4 t'.m (some 0) i0'.m s5) ?_))))
 rintro z9 w8 l9 ⟨_,u9,f4,rfl,t5⟩
 refine va (v1) ?_
 obtain ⟨x8,v5,m9',g4,u5⟩:=f4.frz 0 rfl t5
 refine WL.gh v5 (bn p fun v2 w5 p=>cl (cD g4 u2 y u5 s.m w5) ?_)
 rintro v261 s4 n9 ⟨i4,rfl⟩
 refine va (B v2) (wln (W.ret ?_))
 obtain rfl:=si p
 have j4:=i4.tail
 exact r1 (qq s4 ⟨n,j4,rfl⟩)
end Go.Proofs.YtmncdniojmigeaaDoor
namespace Go.Proofs.YtmncdniojmigeaaDoor
open Go Go.Lt
set_option maxRecDepth 100000 in
theorem fj:(aj ⟨[]⟩).bind (fun g=>(aj g.1).map fun f=>(g.2,f.2))=some (true,true):=by kernel_rfl
theorem fi:∃s t,aj ⟨[]⟩=some (s,true)∧aj s=some (t,true):=by
 have h:=fj
 cases h1:aj ⟨[]⟩ with
 | none=>rw [h1] at h; cases h
 | some g=>
  obtain ⟨s,b⟩:=g;rw [h1,bsm] at h
  cases h2:aj s with
  | none=>simp only [h2] at h; cases h
  | some f=>
   obtain ⟨t,b2⟩:=f;simp only [h2,cp,aF,dP] at h;obtain ⟨rfl,rfl⟩:=h;exact ⟨s,t,rfl,h2⟩
theorem ed (y:List aa) (hy:y.length≤9223372036854775807):dL y=some true:=by
 obtain ⟨s1,s2,w1,w2⟩:=fi;obtain ⟨b,b1,b2⟩:=eY y hy;unfold dL;rw [w1,bsm,dQ,fa,bsm,b1];by_cases hgo:y.length > 200∨b=false∨y.length=0
 ·simp only [bsm,aX];rw [ao,w2,bsm];rw [aG,aG,be,cc,cP];rcases hgo with h | h | h
  ·left; left; omega
  ·left; right; exact h
  ·right; omega
 ·have h200:y.length≤200:=by omega
  have hb:b=true:=by
   cases b with
   | true=>rfl
   | false=>exact absurd (.inr (.inl rfl)) hgo
  have h0:y.length≠0:=by omega
  have hS:=b2.1 hb;have hT:=hS.sht;simp only [bsm,aX];rw [aK (by
   rw [aG,aG,be,cc,cP,hb];rintro ((h | h) | h)
   ·omega
   ·cases h
   ·omega)]
  refine db (n:=y.length) (fun i (a:List aa×Int)=>a=(y.take i,(i:Int))) (fun t=>t=y) (fun i a hi hI=>?_) (fun a hI=>?_) rfl (by omega) (fun t ht=>?_)
  ·subst hI
   left
   have h1:=hT i hi;rw [ao (dlt hi),bi hi,bsm,bsm,dV (by simp; omega),bsm,dk,dV (by rw [an,gE]; omega),bsm,dt hi (by omega)];exact ⟨_,rfl,by rw [bg hi]⟩
  ·subst hI;exact ⟨_,by rw [aK (by simp)],by rw [List.take_length]⟩
  ·subst ht;have hr:(Sto.add_row_Row (⟨[]⟩:Sto) ⟨t,false⟩).row_Row[0]? = some ⟨t,false⟩:=rfl;have hc:=eW (w:=false) hr (by omega) hT;rw [fq (by omega) (by omega) hS,bsm,aK (by simp [Er.isNil])];simp only [fg];rw [hc,bsm];refine db (n:=t.length) (fun i (a:Int)=>a=(i:Int)) (fun t=>t=()) (fun i a hi hI=>?_) (fun a hI=>?_) rfl (by omega) (fun u hu=>?_)
   ·subst hI
    left
    have h1:=hT i hi;rw [ao (dlt hi),fr (w:=false) hr hi hT,bsm,bi hi,bsm];refine ⟨((i+1:Nat):Int),?_,rfl⟩;refine db (n:=t[i].Text.length) (fun k (a:Int×List Int)=>∃l:List Int,a=((k:Int),l)∧l.length=t[i].Text.length) (fun _=>True) (fun k a hk hI=>?_) (fun a hI=>?_) ⟨_,rfl,rfl⟩ (by omega) (fun u _=>by rw [dt hi (by omega)])
    ·obtain ⟨l,rfl,hl⟩:=hI
     left
     simp only;rw [bsm,ao (dlt hk),bsm,bi hk,bsm,bsm,bi hk,bsm,bi (show k < l.length by omega),bsm,show cJ l (k:Int) 3=some (l.set k 3) by unfold cJ; rw [ao (by omega)]; rfl,bsm,dt hk (by omega)];exact ⟨_,rfl,_,rfl,by rw [aN]; exact hl⟩
    ·obtain ⟨l,rfl,hl⟩:=hI;exact ⟨_,by simp only; rw [bsm,aK (by simp)],trivial⟩
   ·subst hI;exact ⟨_,by rw [aK (by simp)],rfl⟩
   ·rw [bsm,eS hy hT,bsm]
theorem gu {W:World} {v1:Value} {G:Gm} {F:List En} (O0:Own (C0 W) G F) (R0:Rel (C0 W) ⟨[]⟩ G) (hG:Gl [0,1] (C0 W)) (y:List aa) {r:Bool} (s:Sl ac (C0 W) v1 y) (H:dL y=some r):
  Calls Tryd.prog 3 #[v1] (C0 W).w (bu (C0 W) fun c v=>True∧v=B r):=
 (gO O0 (fun _ _ h=>h) (fun _ _=>rfl) R0 hG y s H).mono fun e w h=>by
  obtain ⟨v,c,a,b,d,_,_,f⟩:=h
  exact ⟨v,c,a,b,d,trivial,f⟩
end Go.Proofs.YtmncdniojmigeaaDoor
namespace Go.Proofs.YtmncdniojmigeaaDoor
open Go Go.Lt
set_option linter.unusedVariables false
theorem hC {α:Type} {cs:List α} (h:cs.length=2):∃a0 a1,cs= [a0,a1]:=by
 match cs,h with
 | [a0,a1],_=>exact ⟨_,_,rfl⟩
def K_3 (n:Int):Prop:=(Lit.int .i64 n).wf=true
theorem D_3:Rd Tryd.prog 3 (RI .i64) K_3:=Rd.int Tryd.underlying3 (by kernel_rfl)
def gR (n:Int):Prop:=(Lit.int .i32 n).wf=true
theorem il:Rd Tryd.prog 21 (RI .i32) gR:=Rd.int Tryd.underlying21 (by kernel_rfl)
def gQ (xs:List Int):Prop:=xs.length≤maxLen∧∀x∈xs,gR x
theorem ij:Rd Tryd.prog 25 (RL (RI .i32)) gQ:=Rd.slice Tryd.underlying25 (by kernel_rfl) (by decide) il
def gP (x:aa):Prop:=K_3 x.Kind∧gQ x.Text
theorem ii:Rd Tryd.prog 27 ac gP:=by
 refine ⟨by kernel_rfl,fun {H enc w sp held fuel cs x} h=>?_⟩;obtain ⟨xs,n,rfl,rfl,hl,hn,hf⟩:=DataW.trod_struct Tryd.underlying27 h;replace hl:=hl.trans (show Tryd.prog.cellsOf 27=2 by kernel_rfl);obtain ⟨a0,a1,rfl⟩:=hC hl;obtain ⟨y0,e0,k0⟩:=Rd.field hf hn 0 rfl D_3;have e0: [a0]= [.int .i64 y0]:=e0;cases e0;obtain ⟨y1,e1,k1⟩:=Rd.field hf hn 1 rfl ij;obtain ⟨v1,e1,s1⟩:=e1;have e1: [a1]= [v1]:=e1;cases e1;exact ⟨⟨y0,y1⟩,⟨_,rfl,s1⟩,k0,k1⟩
def ic (xs:List aa):Prop:=xs.length≤maxLen∧∀x∈xs,gP x
theorem ik:Rd Tryd.prog 22 (RL ac) ic:=Rd.slice Tryd.underlying22 (by kernel_rfl) (by decide) ii
theorem gX (w:World):Rel (C0 w) ⟨[]⟩ (fun _ _=>[]):=
 ⟨⟨fun k x h=>by simp at h,fun _ _=>rfl⟩⟩
theorem gH: "*" ++ "errors.errorString" = "*errors.errorString" :=by decide
set_option maxRecDepth 100000 in
theorem fm (u:TypeId) (h:Tryd.prog.typeName? 3 u=some "*errors.errorString"):u=54:=
 typeName_ptr_named (nm:= "errors.errorString") (by rw [gH]; kernel_rfl) (by kernel_rfl) (by decide) u (by rw [gH]; exact h)
set_option maxRecDepth 100000 in
theorem eI {W:World} {laid:List (String×DataW Unit)} (h:laidMetH Tryd.prog laid W) (hf:(laid.filter fun x=>x.2.handleName?.isSome)= []) (n:String) (text:List UInt8) (g:Nat)
  (hm:(n,DataW.iface "*errors.errorString" (.ptr (.agg [.lit (.string text)])))∈laid) (hg:Tryd.prog.globalNamed n=some g) (ht:(Tryd.prog.globals[g]?).map (·.type)=some 30):
  ∃a s,Im (C0 W) g 0 (.iface 54 (.pointer (some a)))∧W.cell? a=some (.string s)∧s.data.toList=text∧RE 54 99999 (C0 W) (.iface 54 (.pointer (some a))) (.sent g):=by
 rw [gM hf] at h;obtain ⟨ps,hl,_,hr⟩:=h;obtain ⟨a,s,h1,h2,h3,cs,t,h4⟩:=dM Tryd.underlying30 fm Tryd.underlying54 Tryd.underlying72 rfl rfl Tryd.underlying9 (by kernel_rfl) (by kernel_rfl) hl hr n text g hm hg ht;exact ⟨a,s,im0 h1,h2,h3,a,rfl,im0 h1,(Array.getElem?_eq_some_iff.1 h4).1,fun _=>id,cs,t,h4⟩
theorem gq {W:World} {n:List Nat} (tx:Nat→List UInt8) (h:∀g,g∈n→∃a s,Im (C0 W) g 0 (.iface 54 (.pointer (some a)))∧W.cell? a=some (.string s)∧s.data.toList=tx g∧RE 54 99999 (C0 W) (.iface 54 (.pointer (some a))) (.sent g))
  (hd:∀g,g∈n→∀g',g'∈n→tx g=tx g'→g=g'):Gl n (C0 W):=by
 refine ⟨fun g hg=>?_,fun g g' hg hg' hne a h1 h2=>?_⟩
 ·obtain ⟨a,_,_,_,_,h4⟩:=h g hg;exact ⟨_,h4⟩
 ·obtain ⟨a1,s1,e1,e2,e3,_⟩:=h g hg;obtain ⟨a2,s2,f1,f2,f3,_⟩:=h g' hg';have q1:=e1.cell.symm.trans h1.cell;have q2:=f1.cell.symm.trans h2.cell;cases q1;cases q2;have q3:=e2.symm.trans f2;cases q3;exact hne (hd g hg g' hg' (e3.symm.trans f3))
end Go.Proofs.YtmncdniojmigeaaDoor
