/- Parts of the proofs of BoundTexts: the walk through the code, and plain Lean. No condition. -/
import Derived.WalkKit
import Derived.KernelRfl
import Derived.TacticsIn
import Derived.LoopNIn
import Derived.OrdersIn
import Derived.Laws.BytesString
import Derived.Test.YtmncdniojmigeaaProg
import Derived.RangeFuncSeq
import Derived.RangeFuncRecord
import Derived.RangeFuncLeaves
set_option linter.unusedVariables false
set_option linter.unusedSimpArgs false
abbrev bH:=@Go.Addr.add_lit
abbrev ki:=@Array.empty_append
abbrev kh:=@Array.ext'
abbrev aM:=@Array.getD_eq_getD_getElem?
abbrev jl:=@Array.getElem?_eq_none
abbrev aG:=@Bool.and_eq_true
abbrev aE:=@Bool.false_eq_true
abbrev iR:=@Bool.false_or
abbrev fe:=@Bool.not_true
abbrev aT:=@Bool.or_eq_true
abbrev iZ:=@Go.WideShapes.add_plain
abbrev jQ:=@Int.le_refl
abbrev gk:=@List.all_eq_true
abbrev a7:=@List.append_assoc
abbrev ep:=@List.append_nil
abbrev jo:=@List.contains_iff_mem
abbrev gr:=@List.drop_append_of_le_length
abbrev dM:=@List.drop_drop
abbrev eW:=@List.drop_left
abbrev eV:=@List.drop_take
abbrev eU:=@List.drop_zero
abbrev bk:=@List.eq_nil_of_length_eq_zero
abbrev km:=@List.ext_getElem?
abbrev f6:=@List.flatten_cons
abbrev ii:=@List.getD_eq_getElem?_getD
abbrev ah:=@List.getElem?_append_left
abbrev aq:=@List.getElem?_append_right
abbrev br:=@List.getElem?_cons_succ
abbrev ef:=@List.getElem?_cons_zero
abbrev fw:=@List.getElem?_drop
abbrev aj:=@List.getElem?_eq_getElem
abbrev f5:=@List.getElem?_map
abbrev jR:=@List.getElem?_range
abbrev bj:=@List.getElem?_set_ne
abbrev a6:=@List.getElem?_set_self
abbrev aV:=@List.getElem?_take
abbrev aK:=@List.getElem?_toArray
abbrev iP:=@List.getElem_append_left
abbrev ij:=@List.getElem_append_right
abbrev jk:=@List.getElem_cons_zero
abbrev kn:=@List.getElem_map
abbrev bR:=@List.getElem_mem
abbrev aA:=@List.length_append
abbrev bf:=@List.length_cons
abbrev be:=@List.length_drop
abbrev dB:=@List.length_map
abbrev aS:=@List.length_nil
abbrev dA:=@List.length_set
abbrev eD:=@List.length_singleton
abbrev aw:=@List.length_take
abbrev kv:=@List.map_append
abbrev kb:=@List.map_singleton
abbrev dv:=@List.mem_append_left
abbrev jm:=@List.mem_append_right
abbrev fd:=@List.mem_cons
abbrev jO:=@List.mem_of_mem_drop
abbrev eS:=@List.mem_of_mem_take
abbrev cL:=@List.nil_append
abbrev ee:=@List.not_mem_nil
abbrev ka:=@List.set_cons_zero
abbrev fZ:=@List.size_toArray
abbrev du:=@List.take_append_of_le_length
abbrev jj:=@List.take_of_length_le
abbrev fY:=@List.take_succ_eq_append_getElem
abbrev eR:=@List.take_take
abbrev ig:=@List.take_zero
abbrev bu:=@Nat.add_mul
abbrev eC:=@Nat.ble_eq_true_of_le
abbrev cZ:=@Nat.eq_of_beq_eq_true
abbrev cM:=@Nat.eq_zero_or_pos
abbrev ai:=@Nat.le_of_ble_eq_true
abbrev ak:=@Nat.le_refl
abbrev dX:=@Nat.le_succ
abbrev cV:=@Nat.le_trans
abbrev bz:=@Nat.lt_of_lt_of_le
abbrev bi:=@Nat.lt_or_ge
abbrev dt:=@Nat.mul_le_mul_right
abbrev jN:=@Nat.mul_one
abbrev ku:=@Nat.not_lt_zero
abbrev eQ:=@Nat.one_mul
abbrev bW:=@Nat.succ_pos
abbrev bV:=@Nat.zero_add
abbrev dr:=@Nat.zero_le
abbrev fX:=@Nat.zero_mul
abbrev iO:=@Go.Oper.semAt_eq
abbrev kl:=@Go.Oper.uponIn_value
abbrev iY:=@Option.bind_eq_some_iff
abbrev ed:=@Option.bind_some
abbrev gO:=@Option.some.inj
abbrev aL:=@Option.some.injEq
abbrev iN:=@Prod.mk.injEq
abbrev bq:=@Go.RowKit.Below.heap_alloc
abbrev fW:=@Go.Sem.run_bind
abbrev jh:=@Go.Sem.run_pure
abbrev dY:=@Sum.inl.injEq
abbrev cq:=@Go.World.cell?_of_block
abbrev j9:=@Go.World.keptBut_mono
abbrev dd:=@beq_iff_eq
abbrev je:=@Go.callsIn_wide
abbrev dU:=@Go.cell_of_row
abbrev j7:=@cond_false
abbrev hU:=@congrArg
abbrev bp:=@decide_eq_true_eq
abbrev eY:=@dif_neg
abbrev eX:=@dif_pos
abbrev j5:=@Go.execOp_put
abbrev jB:=@Go.getD_set_ne
abbrev jZ:=@Go.grownCap_le_maxLen
abbrev cD:=@if_false
abbrev af:=@if_neg
abbrev ac:=@if_pos
abbrev dT:=@not_false_eq_true
abbrev kj:=@of_decide_eq_true
abbrev jz:=@or_false
abbrev jW:=@Go.ready_mono
abbrev kr:=@Go.run_append_grow
abbrev kp:=@Go.run_append_room
abbrev aH:=@Go.run_underlying
abbrev cr:=@Go.wpIn_mono
abbrev eF:=@Go.wpListIn_plain
namespace Go.Lt
structure Fr where
 n:Nat
 df:List Deferred
 ro:Option Nat
instance:CoeOut Fr Nat:=⟨Fr.n⟩
def fen (r:Option Nat):Fence:={ Fence.wide with round:=r}
def act (n:Fr) (e:Nat→Value):Act:={ tmps:=((List.range n.n).map e).toArray,defers:=n.df}
def ev (n:Nat) (e:Nat→Value):Operand→Value
 | .tmp t=>cond (Nat.ble (t+1) n) (e t) undef
 | .const v=>v
 | .global g=> .pointer (some ⟨g,0,none⟩)
 | .func f=> .func (.func f) #[] #[]
def up (e:Nat→Value) (d:Nat) (v:Value):Nat→Value:=fun t=>cond (Nat.beq t d) v (e t)
def upO (e:Nat→Value):Option Nat→Value→(Nat→Value)
 | some d,v=>up e d v
 | none,_=>e
theorem cp (n:Fr) (e:Nat→Value):(act n e).eval=ev n e:=by
 funext x
 cases x with
 | tmp t=>
  simp only [Act.eval,act,ev];by_cases h:t < n.n
  ·have:Nat.ble (t+1) n.n=true:=eC h;simp [h,this]
  ·have:Nat.ble (t+1) n.n=false:=by
    cases hb:Nat.ble (t+1) n.n with
    | false=>rfl
    | true=>exact absurd (ai hb) h
   simp [h,this]
 | const v=>rfl
 | global g=>rfl
 | func f=>rfl
theorem dz (n:Fr) (e:Nat→Value) (d:Option Nat) (v:Value):(act n e).put d v=act n (upO e d v):=by
 cases d with
 | none=>rfl
 | some d=>
  simp only [Act.put,act,upO]
  congr 1
  apply Array.ext
  ·simp
  ·intro i h1 h2;simp only [fZ,dB,List.length_range,Array.size_setIfInBounds] at h1 h2;by_cases hi:d=i
   ·subst hi; simp [up]
   ·have:Nat.beq i d=false:=by
     cases hb:Nat.beq i d with
     | false=>rfl
     | true=>exact absurd (cZ hb).symm hi
    simp [up,hi,this]
def jq:Exit→Prop
 | .panic _=>False
 | .outgrown=>False
 | _=>True
def fH (n:Fr) (Q:Exit→(Nat→Value)→World→Prop):Exit→Act→World→Prop:=fun x a w=>jq x∧∃e,a=act n e∧Q x e w
def W (P:Program) (n:Fr) (c:Code) (Q:Exit→(Nat→Value)→World→Prop) (e:Nat→Value) (w:World):Prop:=c.wpIn (fen n.ro) 0 P (fH n Q) (act n e) w
def dF (K:(Nat→Value)→World→Prop) (Q:Exit→(Nat→Value)→World→Prop):Exit→(Nat→Value)→World→Prop
 | .normal,e,w=>K e w
 | x,e,w=>Q x e w
def co (id:Nat) (Q:Exit→(Nat→Value)→World→Prop):Exit→(Nat→Value)→World→Prop
 | .exit i,e,w=>cond (Nat.beq i id) (Q .normal e w) (Q (.exit i) e w)
 | x,e,w=>Q x e w
section
variable {P:Program} {n:Fr} {Q Q':Exit→(Nat→Value)→World→Prop} {e:Nat→Value} {w:World} {a b:Code}
theorem W.mono (h:W P n a Q e w) (hq:∀x e w,Q x e w→Q' x e w):W P n a Q' e w:=
 cr h fun x _ w ⟨ht,e,ha,hQ⟩=>⟨ht,e,ha,hq x e w hQ⟩
theorem W.seq (h:W P n a (dF (W P n b Q) Q) e w):W P n (a.seq b) Q e w:=
 wpIn_seq (cr h fun x a' w' ⟨ht,e',ha,hQ⟩=>by
  subst ha
  cases x with
  | normal=>exact hQ
  | _=>exact ⟨ht,e',rfl,hQ⟩)
theorem W.seqJ (J:(Nat→Value)→World→Prop) (h:W P n a (dF J Q) e w) (hJ:∀e w,J e w→W P n b Q e w):W P n (a.seq b) Q e w:=
 W.seq (W.mono h fun x e w hx=>by cases x <;> first | exact hJ _ _ hx | exact hx)
theorem W.skip (h:Q .normal e w):W P n .skip Q e w:=wpIn_skip ⟨trivial,e,rfl,h⟩
theorem W.ret (h:Q .ret e w):W P n .ret Q e w:=wpIn_ret ⟨trivial,e,rfl,h⟩
theorem W.exit {id:Nat} (h:Q (.exit id) e w):W P n (.exit id) Q e w:=wpIn_exit ⟨trivial,e,rfl,h⟩
theorem W.block {id:Nat} (h:W P n a (co id Q) e w):W P n (.block id a) Q e w:=
 wpIn_block (cr h fun x a' w' ⟨ht,e',ha,hQ⟩=>by
  subst ha
  cases x with
  | exit i=>
   simp only [Exit.inBlock];by_cases hi:i=id
   ·subst hi;rw [ac rfl];exact ⟨trivial,e',rfl,by simpa [co] using hQ⟩
   ·rw [af hi];have:Nat.beq i id=false:=by
     cases hb:Nat.beq i id with
     | false=>rfl
     | true=>exact absurd (cZ hb) hi
    exact ⟨trivial,e',rfl,by simpa [co,this] using hQ⟩
  | _=>exact ⟨ht,e',rfl,hQ⟩)
theorem W.cond {c:Operand} {t:Bool} (hc:ev n e c= .bool t) (ht:t=true→W P n a Q e w) (hf:t=false→W P n b Q e w):W P n (.cond c a b) Q e w:=
 wpIn_cond_split (by rw [cp]; exact hc) ht hf
def WL (P:Program) (ops:Array Oper) (n:Fr) (Q:Exit→(Nat→Value)→World→Prop) (l:List Oper) (e:Nat→Value) (w:World):Prop:=
 wpListIn (fen n.ro) 0 P ops (fH n Q) l (act n e) w
theorem W.region {id:Nat} {l:List Oper} (h:WL P l.toArray n Q l e w):W P n (.region id l.toArray false) Q e w:=wpIn_region_lit h
variable {ops:Array Oper} {o:Oper} {rest:List Oper}
theorem WL.nil (h:Q .normal e w):WL P ops n Q [] e w:=⟨trivial,e,rfl,h⟩
theorem dG {r:Option Nat} {ρ:Operand→Value} {w w':World} {x:Next} (h:(execOp ρ o).run P w= .ok x w') (hx:∀d,x≠ .defer d):(o.semAt r ρ).run P w= .ok x w':=by
 by_cases hd:∀c,o.op≠ .defer c
 ·rw [iO r ρ o hd]; exact h
 ·obtain ⟨c,hc⟩:=Classical.not_forall.1 hd;have hc:=Classical.not_not.1 hc;unfold execOp at h;rw [hc] at h;simp only [fW,jh] at h
  cases hr:(resolve ρ c o.type).run P w with
  | ok d w1=>rw [hr] at h; simp only [Result.andThen,Result.ok.injEq] at h; exact absurd h.1.symm (hx d)
  | halt h1 w1=>rw [hr] at h; simp [Result.andThen] at h
theorem eo {r:Option Nat} {k:Nat} {f:FuncId} {args:Array Value} {w:World} {R:Ending→World→Prop} (h:Calls P f args w R):CallsIn (fen r) k P f args w R:=(je (n:=k)).2 h
theorem g6 {v:Value} {w':World} {K:Act→World→Prop} {Qa:Exit→Act→World→Prop} (hr:(execOp (ev n e) o).run P w= .ok (.value v) w') (h:K (act n (upO e o.dst v)) w'):o.wpIn (fen n.ro) 0 P (act n e) w K Qa:=by
 refine ⟨fun _ _=>trivial,?_⟩;rw [cp,dG hr (by simp),kl,dz];exact h
theorem iV {w':World} {K:Act→World→Prop} {Qa:Exit→Act→World→Prop} (hr:(execOp (ev n e) o).run P w= .ok .skip w') (h:K (act n (upO e o.dst undef)) w'):o.wpIn (fen n.ro) 0 P (act n e) w K Qa:=by
 refine ⟨fun _ _=>trivial,?_⟩;rw [cp,dG hr (by simp),Oper.uponIn_skip,dz];exact h
theorem gl {f:FuncId} {args:Array Value} {w':World} {K:Act→World→Prop} {Qa:Exit→Act→World→Prop} (hr:(execOp (ev n e) o).run P w= .ok (.enter f args) w')
  (hc:Calls P f args w' fun x w''=>∃v,x= .returned v∧K (act n (upO e o.dst v)) w''):o.wpIn (fen n.ro) 0 P (act n e) w K Qa:=by
 refine ⟨fun _ _=>trivial,?_⟩;rw [cp,dG hr (by simp),Oper.uponIn_enter];refine ⟨fun h=>(by cases h),(eo hc).mono ?_⟩;rintro x w'' ⟨v,rfl,h⟩;simp only [dz];exact h
theorem WL.val {v:Value} {w':World} (hg:o.guard=none) (hr:(execOp (ev n e) o).run P w= .ok (.value v) w') (h:WL P ops n Q rest (upO e o.dst v) w'):WL P ops n Q (o :: rest) e w:=
 eF hg fun K hK=>g6 hr (hK _ _ h)
theorem WL.do_ {w':World} (hg:o.guard=none) (hr:(execOp (ev n e) o).run P w= .ok .skip w') (h:WL P ops n Q rest (upO e o.dst undef) w'):WL P ops n Q (o :: rest) e w:=
 eF hg fun K hK=>iV hr (hK _ _ h)
theorem WL.call {f:FuncId} {args:Array Value} {w':World} (hg:o.guard=none) (hr:(execOp (ev n e) o).run P w= .ok (.enter f args) w')
  (hc:Calls P f args w' fun x w''=>∃v,x= .returned v∧WL P ops n Q rest (upO e o.dst v) w''):WL P ops n Q (o :: rest) e w:=
 eF hg fun K hK=>gl hr (hc.mono fun x w'' ⟨v,hx,h⟩=>⟨v,hx,hK _ _ h⟩)
def yl (ops:Array Oper) (n:Nat) (e:Nat→Value) (j:Nat):Option Bool:=
 match (ops[j]?).bind Oper.dst with
 | some d=>match ev n e (.tmp d) with
  | .bool b=>some b
  | _=>none
 | none=>none
def bv (ops:Array Oper) (n:Nat) (e:Nat→Value) (o:Oper):Bool:=
 match o.guard with
 | none=>true
 | some (j,want)=>yl ops n e j==some want
theorem dh (ops:Array Oper) (n:Fr) (e:Nat→Value) (o:Oper) (h:∀d,(∃j:Nat,(ops[j]?).bind Oper.dst=some d)→d < n.n):
  Region.wanted o (yielded ops (act n e).tmps)=bv ops n e o:=by
 unfold Region.wanted bv
 cases hg:o.guard with
 | none=>rfl
 | some jw=>
  obtain ⟨j,want⟩:=jw;simp only
  congr 1
  unfold yielded yl
  cases hd:(ops[j]?).bind Oper.dst with
  | none=>rfl
  | some d=>
   have hdn:=h d ⟨j,hd⟩;have:Nat.ble (d+1) n.n=true:=eC hdn;simp only [act,ev,ed,this,cond_true];simp only [aK,f5,jR hdn,Option.map_some]
   cases e d <;> rfl
def a8 (n:Nat):List Oper→Bool
 | []=>true
 | o :: l=>(match o.dst with | some d=>Nat.ble (d+1) n | none=>true) && a8 n l
theorem bT {n:Nat} {l:List Oper} (h:a8 n l=true) (d:Nat) (hd:∃j:Nat,(l.toArray[j]?).bind Oper.dst=some d):d < n:=by
 obtain ⟨j,hj⟩:=hd;simp only [aK] at hj
 induction l generalizing j with
 | nil=>simp at hj
 | cons o l ih=>
  simp only [a8,aG] at h
  cases j with
  | zero=>
   simp only [ef,ed] at hj;rw [hj] at h;exact ai h.1
  | succ j=>exact ih h.2 j (by simpa using hj)
theorem WL.pass {l:List Oper} (hs:a8 n l=true) (hw:bv l.toArray n e o=false) (h:WL P l.toArray n Q rest (upO e o.dst undef) w):WL P l.toArray n Q (o :: rest) e w:=by
 have hww:Region.wanted o (yielded l.toArray (act n e).tmps)=false:=by rw [dh _ _ _ _ (bT hs)]; exact hw
 unfold WL wpListIn;rw [af (by rw [hww]; simp),dz];exact ⟨fun _ _=>trivial,h⟩
theorem WL.want {l:List Oper} (hs:a8 n l=true) (hw:bv l.toArray n e o=true) (h:WL P l.toArray n Q ({ o with guard:=none} :: rest) e w):WL P l.toArray n Q (o :: rest) e w:=by
 have hww:Region.wanted o (yielded l.toArray (act n e).tmps)=true:=by rw [dh _ _ _ _ (bT hs)]; exact hw
 have hg:Region.wanted ({ o with guard:=none}:Oper) (yielded l.toArray (act n e).tmps)=true:=rfl;unfold WL wpListIn at h⊢;rw [ac hww];rw [ac hg] at h;exact h
theorem W.join (J:(Nat→Value)→World→Prop) (h:W P n a (dF J (fun _ _ _=>False)) e w) (hJ:∀e w,J e w→Q .normal e w):W P n a Q e w:=
 W.mono h fun x e w hx=>by cases x <;> first | exact hJ _ _ hx | exact hx.elim
theorem nrm {K:(Nat→Value)→World→Prop} (h:K e w):dF K Q .normal e w:=h
theorem thx {K:(Nat→Value)→World→Prop} {i:Nat} (h:Q (.exit i) e w):dF K Q (.exit i) e w:=h
theorem thr {K:(Nat→Value)→World→Prop} (h:Q .ret e w):dF K Q .ret e w:=h
theorem bkn {i:Nat} (h:Q .normal e w):co i Q .normal e w:=h
theorem bkr {i:Nat} (h:Q .ret e w):co i Q .ret e w:=h
theorem bke {i:Nat} (h:Q .normal e w):co i Q (.exit i) e w:=by
 have:Nat.beq i i=true:=Nat.beq_refl i;simpa [co,this] using h
theorem bko {i j:Nat} (hij:Nat.beq j i=false) (h:Q (.exit j) e w):co i Q (.exit j) e w:=by simpa [co,hij] using h
theorem WL.valb {t b:Bool} {w':World} (ht:t=b) (hg:o.guard=none) (hr:(execOp (ev n e) o).run P w= .ok (.value (.bool t)) w') (h:WL P ops n Q rest (upO e o.dst (.bool b)) w'):WL P ops n Q (o :: rest) e w:=by
 subst ht;exact WL.val hg hr h
theorem WL.val0 {v:Value} (hg:o.guard=none) (hr:(execOp (ev n e) o).run P w= .ok (.value v) w) (h:WL P ops n Q rest (upO e o.dst v) w):WL P ops n Q (o :: rest) e w:=WL.val hg hr h
theorem WL.valb0 {t b:Bool} (ht:t=b) (hg:o.guard=none) (hr:(execOp (ev n e) o).run P w= .ok (.value (.bool t)) w) (h:WL P ops n Q rest (upO e o.dst (.bool b)) w):WL P ops n Q (o :: rest) e w:=WL.valb ht hg hr h
def cQ {σ τ:Type}:Nat→(σ→Option (σ ⊕ τ))→σ→Option τ
 | 0,_,_=>none
 | n+1,f,s=>(f s).bind fun x=>match x with
  | .inl s'=>cQ n f s'
  | .inr t=>some t
def lpQ {σ τ:Type} (F:σ→(Nat→Value)→World→Prop) (Out:τ→Exit→(Nat→Value)→World→Prop) (x:σ ⊕ τ):Exit→(Nat→Value)→World→Prop
 | .normal,e,w=>∃s,x= .inl s∧F s e w
 | ex,e,w=>∃t,x= .inr t∧Out t ex e w
theorem W.loop {σ τ:Type} {step:σ→Option (σ ⊕ τ)} (F:σ→(Nat→Value)→World→Prop) (Out:τ→Exit→(Nat→Value)→World→Prop)
  (hb:∀s x e w,step s=some x→F s e w→W P n a (lpQ F Out x) e w) {fuel:Nat} {s:σ} {t:τ} (H:cQ fuel step s=some t) (h0:F s e w)
  (hQ:∀x e w,Out t x e w→Q x e w):W P n (.loop a) Q e w:=by
 refine wpIn_loop_rounds fuel ?_
 induction fuel generalizing s e w with
 | zero=>cases H
 | succ k ih=>
  rw [roundsIn_succ];simp only [cQ] at H
  cases hs:step s with
  | none=>rw [hs] at H; cases H
  | some x=>
   rw [hs] at H;refine cr (hb s x e w hs h0) ?_;rintro y a' w' ⟨ht,e',rfl,hq⟩
   cases x with
   | inl s'=>
    cases y with
    | normal=>
     obtain ⟨s1,h1,h2⟩:=hq;cases h1;exact ih H h2
    | _=>obtain ⟨t1,h1,_⟩:=hq; cases h1
   | inr t'=>
    have:t'=t:=by simpa using H
    subst this
    cases y with
    | normal=>obtain ⟨s1,h1,_⟩:=hq; cases h1
    | _=>obtain ⟨t1,h1,h2⟩:=hq; cases h1; exact ⟨ht,e',rfl,hQ _ _ _ h2⟩
def ar:List Value→Nat→Value
 | [],_=>undef
 | v :: _,0=>v
 | _ :: l,t+1=>ar l t
def dD (P:Program) (fn:Func) (n:Fr) (R:Ending→World→Prop):Exit→(Nat→Value)→World→Prop
 | .normal,e,w=>∃v,(results fn (act n e).tmps).run P w= .ok v w∧R (.returned v) w
 | .ret,e,w=>∃v,(results fn (act n e).tmps).run P w= .ok v w∧R (.returned v) w
 | _,_,_=>False
theorem ic (n:Nat) (l:List Value) (h:l.length≤n):act ⟨n,[],none⟩ (ar l)= { tmps:=l.toArray++Array.replicate (n - l.length) undef,defers:=[]}:=by
 unfold act
 congr 1
 apply kh;apply List.ext_getElem
 ·simp; omega
 ·intro i h1 h2;simp only [kn,List.getElem_range,Array.toList_append,Array.toList_replicate];have key:∀(l:List Value) (i:Nat) (h:i < l.length),ar l i=l[i]:=by
   intro l
   induction l with
   | nil=>intro i h; simp at h
   | cons v l ih=>
    intro i h
    cases i with
    | zero=>rfl
    | succ i=>exact ih i (by simpa using h)
  have key2:∀(l:List Value) (i:Nat) (h:l.length≤i),ar l i=undef:=by
   intro l
   induction l with
   | nil=>intro i h; rfl
   | cons v l ih=>
    intro i h
    cases i with
    | zero=>simp at h
    | succ i=>exact ih i (by simpa using h)
  by_cases hi:i < l.length
  ·rw [iP hi]; exact key l i hi
  ·rw [ij (by omega)]; rw [key2 l i (by omega)]; simp
theorem enter {f:FuncId} {fn:Func} {code:Code} {n:Nat} {l:List Value} {w:World} {R:Ending→World→Prop} (hf:P.funcs[f]? = some fn) (hb:fn.body=some code) (hn:fn.ntmps=n)
  (hl:Nat.ble l.length n=true) (h:W P ⟨n,[],none⟩ code (dD P fn ⟨n,[],none⟩ R) (ar l) w):Calls P f l.toArray w R:=by
 subst hn;have hl:=ai hl;refine (je (n:=0)).1 (callsIn_of_wp hf hb trivial ?_);rw [fZ,←ic _ l hl];refine cr h ?_;rintro x a w' ⟨_,e',rfl,hq⟩
 cases x <;> first | exact ⟨rfl,hq⟩ | exact hq.elim
theorem b7 (n:Fr) (e:Nat→Value) (t:Nat):(act n e).tmps.getD t undef=ev n e (.tmp t):=by
 rw [←cp]; rfl
theorem jU {fn:Func} {R:Ending→World→Prop} (hr:fn.results= #[]) (h:R (.returned (.tuple #[])) w):dD P fn n R .ret e w:=
 ⟨_,results_none hr _ _ _,h⟩
theorem j6 {fn:Func} {R:Ending→World→Prop} (hr:fn.results= #[]) (h:R (.returned (.tuple #[])) w):dD P fn n R .normal e w:=
 ⟨_,results_none hr _ _ _,h⟩
theorem jt {fn:Func} {R:Ending→World→Prop} {t:Nat} {v:Value} (hr:fn.results= #[.tmp t]) (hv:ev n e (.tmp t)=v) (h:R (.returned v) w):dD P fn n R .ret e w:=
 ⟨_,results_tmp hr _ _ _,by rw [b7,hv]; exact h⟩
def ups (e:Nat→Value):List (Nat×Value)→(Nat→Value)
 | []=>e
 | (t,v) :: l=>up (ups e l) t v
def eK (e:Nat→Value):List (Nat×Value)→Prop
 | []=>True
 | (t,v) :: l=>e t=v∧eK e l
theorem il (e:Nat→Value) {t:Nat} {v:Value} (h:e t=v):up e t v=e:=by
 funext i
 unfold up;by_cases hb:Nat.beq i t=true
 ·rw [hb,cZ hb]; exact h.symm
 ·simp [hb]
theorem fA:∀{l:List (Nat×Value)} {e:Nat→Value},eK e l→e=ups e l
 | [],_,_=>rfl
 | (t,v) :: l,e,h=>by
  have:=fA (l:=l) h.2;rw [ups,←this];exact (il e h.1).symm
end
def w64 (n:Int):Int:=IntKind.i64.wrap n
def w32 (n:Int):Int:=IntKind.i32.wrap n
def cu (x y:Int):Int:=if y > x then y else x
def bt (x y:Int):Int:=if y < x then y else x
theorem bs {α β:Type} {x:Option α} {f:α→Option β} {r:β} (h:x.bind f=some r):∃a,x=some a∧f a=some r:=by
 cases x with
 | none=>cases h
 | some a=>exact ⟨a,rfl,h⟩
theorem it {α:Type} {b:Bool} {x y:Option α} {r:α} (hb:b=true) (h:(if b=true then x else y)=some r):x=some r:=by rw [ac hb] at h; exact h
theorem ie {α:Type} {b:Bool} {x y:Option α} {r:α} (hb:b=false) (h:(if b=true then x else y)=some r):y=some r:=by rw [af (by simp [hb])] at h; exact h
def orE (t:Bool) (x:Option Bool):Option Bool:=if t=true then some true else x
def cy (t:Bool) (x:Option Bool):Option Bool:=if t=true then x else some false
theorem orT {t:Bool} {x:Option Bool} {d:Bool} (ht:t=true) (h:orE t x=some d):d=true:=by simp [orE,ht] at h; exact h
theorem orF {t:Bool} {x:Option Bool} {d:Bool} (ht:t=false) (h:orE t x=some d):x=some d:=by simpa [orE,ht] using h
theorem anT {t:Bool} {x:Option Bool} {d:Bool} (ht:t=true) (h:cy t x=some d):x=some d:=by simpa [cy,ht] using h
theorem anF {t:Bool} {x:Option Bool} {d:Bool} (ht:t=false) (h:cy t x=some d):d=false:=by simp [cy,ht] at h; exact h
end Go.Lt
namespace Go.Lt
structure Cx where
 w:World
 A:Nat→Nat→Prop
 t:Nat→Nat→Option Nat
structure Cx.le (c c':Cx):Prop where
 os:c'.w.os=c.w.os
 output:c'.w.output=c.w.output
 size:c.w.heap.size≤c'.w.heap.size
 cell:∀k o,k < c.w.heap.size→¬c.A k o→c'.w.cell? ⟨k,o,none⟩=c.w.cell? ⟨k,o,none⟩∧¬c'.A k o
 block:∀k,k < c.w.heap.size→(∀o,¬c.A k o)→c'.w.heap[k]? = c.w.heap[k]?
 frz:∀a,a.block < c.w.heap.size→¬c.A a.block a.off→c'.w.frozen? a=c.w.frozen? a
 t:∀g k b,c.t g k=some b→c'.t g k=some b
theorem Cx.le.refl (c:Cx):c.le c:=⟨rfl,rfl,ak _,fun _ _ _ h=>⟨rfl,h⟩,fun _ _ _=>rfl,fun _ _ _=>rfl,fun _ _ _ h=>h⟩
theorem Cx.le.trans {a b c:Cx} (h:a.le b) (k:b.le c):a.le c:=
 ⟨k.os.trans h.os,k.output.trans h.output,cV h.size k.size,fun i o hi hA=>by
  obtain ⟨h1,h2⟩:=h.cell i o hi hA;obtain ⟨k1,k2⟩:=k.cell i o (bz hi h.size) h2;exact ⟨k1.trans h1,k2⟩,fun i hi hA=>(k.block i (bz hi h.size) fun o=>(h.cell i o hi (hA o)).2).trans (h.block i hi hA),
  fun a ha hA=>(k.frz a (bz ha h.size) (h.cell _ _ ha hA).2).trans (h.frz a ha hA),fun g i b hb=>k.t g i b (h.t g i b hb)⟩
structure Cx.lw (c c':Cx):Prop where
 os:c'.w.os=c.w.os
 output:c'.w.output=c.w.output
 size:c.w.heap.size≤c'.w.heap.size
 cell:∀k o,k < c.w.heap.size→¬c.A k o→c'.w.cell? ⟨k,o,none⟩=c.w.cell? ⟨k,o,none⟩∧¬c'.A k o
 block:∀k vs T f,c.w.heap[k]? = some (.cells vs T f)→(∀o,¬c.A k o)→c'.w.heap[k]? = c.w.heap[k]?
 frz:∀a,a.block < c.w.heap.size→¬c.A a.block a.off→c'.w.frozen? a=c.w.frozen? a
 t:∀g k b,c.t g k=some b→c'.t g k=some b
theorem Cx.le.lw {c c':Cx} (h:c.le c'):c.lw c':=⟨h.os,h.output,h.size,h.cell,fun k _ _ _ hk hA=>h.block k (Array.getElem?_eq_some_iff.1 hk).1 hA,h.frz,h.t⟩
instance {c c':Cx}:Coe (c.le c') (c.lw c'):=⟨Cx.le.lw⟩
theorem Cx.lw.trans {a b c:Cx} (h:a.lw b) (k:b.lw c):a.lw c:=
 ⟨k.os.trans h.os,k.output.trans h.output,cV h.size k.size,fun i o hi hA=>by
  obtain ⟨h1,h2⟩:=h.cell i o hi hA;obtain ⟨k1,k2⟩:=k.cell i o (bz hi h.size) h2;exact ⟨k1.trans h1,k2⟩,fun i vs T f hi hA=>by
  have h1:=h.block i vs T f hi hA;exact (k.block i vs T f (h1.trans hi) fun o=>(h.cell i o (Array.getElem?_eq_some_iff.1 hi).1 (hA o)).2).trans h1,
  fun a ha hA=>(k.frz a (bz ha h.size) (h.cell _ _ ha hA).2).trans (h.frz a ha hA),fun g i b hb=>k.t g i b (h.t g i b hb)⟩
structure Cx.but (D:Nat→Prop) (c c':Cx):Prop where
 le:c.le c'
 t:c'.t=c.t
 same:∀k,k < c.w.heap.size→¬D k→c'.w.heap[k]? = c.w.heap[k]?∧∀o,c'.A k o↔c.A k o
def Gr (w w':World):Prop:=w.keptBut w' (fun _=>False)∧(∀a,a.block < w.heap.size→w'.frozen? a=w.frozen? a)∧w.heap.size≤w'.heap.size
theorem Gr.frame {w w':World} (h:Gr w w') (may:MemPlace→Prop):w.keptBut w' may:=j9 (fun _ f=>f.elim) h.1
theorem Cx.le.grown {w:World} {c':Cx} (h:Cx.le ⟨w,fun _ _=>False,fun _ _=>none⟩ c'):Gr w c'.w:=
 ⟨⟨h.os,h.output,fun i hi=>by
  rw [h.block i hi fun _=>id];have:=World.keptBut_refl w fun _=>False;exact this.2.2 i hi⟩,fun a ha=>h.frz a ha id,h.size⟩
structure Im (c:Cx) (b o:Nat) (v:Value):Prop where
 lt:b < c.w.heap.size
 nA:¬c.A b o
 cell:c.w.cell? ⟨b,o,none⟩=some v
theorem Im.lw {c c':Cx} {b o:Nat} {v:Value} (h:Im c b o v) (k:c.lw c'):Im c' b o v:=by
 obtain ⟨h1,h2⟩:=k.cell b o h.lt h.nA;exact ⟨bz h.lt k.size,h2,h1.trans h.cell⟩
theorem Im.mono {c c':Cx} {b o:Nat} {v:Value} (h:Im c b o v) (k:c.le c'):Im c' b o v:=h.lw k.lw
structure Rp (α:Type) where
 size:Nat
 cells:Cx→List Value→α→Prop
 len:∀{c l x},cells c l x→l.length=size
 one:∀{c l x},cells c l x→∀v∈l,v.oneCell'=true
 mono:∀{c c' l x},c.lw c'→cells c l x→cells c' l x
def RI (k:IntKind):Rp Int where
 size:=1
 cells:=fun _ l n=>l= [.int k n]
 len:=fun h=>by simp [h]
 one:=fun h v hv=>by rw [h] at hv; simp at hv; subst hv; rfl
 mono:=fun _ h=>h
def Sl {α:Type} (R:Rp α) (c:Cx) (v:Value) (xs:List α):Prop:=
 ∃a cap,v= .slice a xs.length cap∧xs.length≤cap∧cap≤maxLen∧
  ∀i x,xs[i]? = some x→∃b off l,a=some ⟨b,off,none⟩∧R.cells c l x∧∀j u,l[j]? = some u→Im c b (off+i * R.size+j) u
theorem Sl.lw {α:Type} {R:Rp α} {c c':Cx} {v:Value} {xs:List α} (h:Sl R c v xs) (k:c.lw c'):Sl R c' v xs:=by
 obtain ⟨a,cap,h1,h2,h3,h4⟩:=h;refine ⟨a,cap,h1,h2,h3,fun i x hx=>?_⟩;obtain ⟨b,off,l,e,hl,hc⟩:=h4 i x hx;exact ⟨b,off,l,e,R.mono k hl,fun j u hu=>(hc j u hu).lw k⟩
theorem Sl.mono {α:Type} {R:Rp α} {c c':Cx} {v:Value} {xs:List α} (h:Sl R c v xs) (k:c.le c'):Sl R c' v xs:=h.lw k.lw
theorem Sl.one {α:Type} {R:Rp α} {c:Cx} {v:Value} {xs:List α} (h:Sl R c v xs):v.oneCell'=true:=by
 obtain ⟨a,cap,rfl,_⟩:=h; rfl
theorem Sl.len_le {α:Type} {R:Rp α} {c:Cx} {v:Value} {xs:List α} (h:Sl R c v xs):xs.length≤9223372036854775807:=by
 obtain ⟨a,cap,_,h1,h2,_⟩:=h;unfold maxLen at h2;omega
theorem Sl.nil {α:Type} (R:Rp α) (c:Cx) (a:Option Addr) (cap:Nat) (h:cap≤maxLen):Sl R c (.slice a 0 cap) []:=
 ⟨a,cap,rfl,dr _,h,fun i x hx=>by simp at hx⟩
theorem Sl.nl {α:Type} (R:Rp α) (c:Cx):Sl R c (.slice none 0 0) []:=Sl.nil R c none 0 (dr _)
def RL {α:Type} (R:Rp α):Rp (List α) where
 size:=1
 cells:=fun c l xs=>∃v,l= [v]∧Sl R c v xs
 len:=fun ⟨v,h,_⟩=>by simp [h]
 one:=fun ⟨v,h,hs⟩ u hu=>by rw [h] at hu; simp at hu; subst hu; exact hs.one
 mono:=fun k ⟨v,h,hs⟩=>⟨v,h,hs.lw k⟩
def Pt (g:Nat) (c:Cx) (v:Value):Option Nat→Prop
 | none=>v= .pointer none
 | some k=>∃b,v= .pointer (some ⟨b,0,none⟩)∧c.t g k=some b
theorem Pt.lw {g:Nat} {c c':Cx} {v:Value} {p:Option Nat} (h:Pt g c v p) (k:c.lw c'):Pt g c' v p:=by
 cases p with
 | none=>exact h
 | some p=>obtain ⟨b,h1,h2⟩:=h; exact ⟨b,h1,k.t _ _ _ h2⟩
theorem Pt.mono {g:Nat} {c c':Cx} {v:Value} {p:Option Nat} (h:Pt g c v p) (k:c.le c'):Pt g c' v p:=h.lw k.lw
theorem Pt.one {g:Nat} {c:Cx} {v:Value} {p:Option Nat} (h:Pt g c v p):v.oneCell'=true:=by
 cases p with
 | none=>obtain rfl:=h; rfl
 | some p=>obtain ⟨b,rfl,_⟩:=h; rfl
theorem Pt.get {g:Nat} {c:Cx} {v:Value} {p:Option Nat} {k:Nat} (h:Pt g c v p) (hp:p=some k):∃b,v= .pointer (some ⟨b,0,none⟩)∧c.t g k=some b:=by subst hp; exact h
inductive Er where
 | nil
 | sent (g:Nat)
 | fault (i:Int) (e:Er)
structure Fz (c:Cx) (b:Nat):Prop where
 lt:b < c.w.heap.size
 nA:∀o,¬c.A b o
 blk:∃vs T,c.w.heap[b]? = some (.cells vs T (0,0))
theorem Fz.lw {c c':Cx} {b:Nat} (h:Fz c b) (k:c.lw c'):Fz c' b:=by
 obtain ⟨vs,T,hb⟩:=h.blk;exact ⟨bz h.lt k.size,fun o=>(k.cell b o h.lt (h.nA o)).2,vs,T,(k.block b _ _ _ hb h.nA).trans hb⟩
def RE (S T:TypeId) (c:Cx):Value→Er→Prop
 | v,.nil=>v= .nilIface
 | v,.sent g=>∃a,v= .iface S (.pointer (some a))∧Im c g 0 v∧Fz c a.block
 | v,.fault i e=>∃b u,v= .iface T (.pointer (some ⟨b,0,none⟩))∧Im c b 0 (.int .i64 i)∧Im c b 1 u∧RE S T c u e
theorem RE.lw {S T:TypeId} {c c':Cx} {v:Value} {e:Er} (h:RE S T c v e) (k:c.lw c'):RE S T c' v e:=by
 induction e generalizing v with
 | nil=>exact h
 | sent g=>obtain ⟨b,h,hi,hf⟩:=h; exact ⟨b,h,hi.lw k,hf.lw k⟩
 | fault i e ih=>obtain ⟨b,u,h,h1,h2,h3⟩:=h; exact ⟨b,u,h,h1.lw k,h2.lw k,ih h3⟩
def sb:Value→Nat
 | .slice (some a) _ _=>a.block
 | _=>0
def so:Value→Nat
 | .slice (some a) _ _=>a.off
 | _=>0
theorem Sl.at {α:Type} {R:Rp α} {c:Cx} {v:Value} {xs:List α} (h:Sl R c v xs) {i:Nat} {x:α} (hx:xs[i]? = some x):
  ∃l,R.cells c l x∧∀j u,l[j]? = some u→Im c (sb v) (so v+i * R.size+j) u:=by
 obtain ⟨a,cap,rfl,_,_,h4⟩:=h;obtain ⟨b,off,l,rfl,hl,hc⟩:=h4 i x hx;exact ⟨l,hl,hc⟩
def idx {α:Type} (xs:List α) (i:Int):Option α:=if 0≤i then xs[i.toNat]? else none
def slc {α:Type} (xs:List α) (i j:Int):Option (List α):=if 0≤i∧i≤j∧j≤xs.length then some ((xs.drop i.toNat).take (j - i).toNat) else none
def far:Nat:=1099511627776
def app {α:Type} (xs ys:List α):Option (List α):=if xs.length+ys.length≤far then some (xs++ys) else none
theorem bl {α:Type} {xs:List α} {i:Int} {x:α} (h:idx xs i=some x):xs[i.toNat]? = some x:=by
 unfold idx at h;split at h
 ·exact h
 ·cases h
theorem ej {α:Type} {xs:List α} {i:Int} {x:α} (h:idx xs i=some x):0≤i∧i < xs.length:=by
 have:=bl h;unfold idx at h;split at h
 ·have:=(List.getElem?_eq_some_iff.1 this).1;omega
 ·cases h
structure En where
 v:Value
 T:TypeId
 vs:List Value
 lim:Nat
def blk:Value→Option Nat
 | .pointer (some a)=>some a.block
 | .slice (some a) _ _=>some a.block
 | _=>none
def En.on (e:En) (c:Cx):Prop:=∀b,blk e.v=some b→c.w.heap[b]? = some (.cells e.vs.toArray e.T (0,0))∧∀o,c.A b o↔e.lim≤o
def apart (e e':En):Prop:=∀b,blk e.v=some b→blk e'.v=some b→False
def er:En:=⟨.nilIface,0,[],0⟩
abbrev Gm:=Nat→Nat→List En
def at_ (G:Gm) (F:List En):Nat ⊕ (Nat×Nat×Nat)→Option En
 | .inl k=>F[k]?
 | .inr (g,k,r)=>(G g k)[r]?
def dg {ι:Type} (c:Cx) (M:ι→Option En):Prop:=(∀i e,M i=some e→e.on c)∧∀i j e e',M i=some e→M j=some e'→i≠j→apart e e'
theorem En.on.lt {e:En} {c:Cx} {b:Nat} (h:e.on c) (hb:blk e.v=some b):b < c.w.heap.size:=(Array.getElem?_eq_some_iff.1 (h b hb).1).1
theorem En.on.keep {e:En} {c c':Cx} (h:e.on c) (k:∀b,blk e.v=some b→c'.w.heap[b]? = c.w.heap[b]?∧∀o,c'.A b o↔c.A b o):e.on c':=fun b hb=>
 ⟨(k b hb).1.trans (h b hb).1,fun o=>((k b hb).2 o).trans ((h b hb).2 o)⟩
theorem go (c:Cx):er.on c:=fun b hb=>by cases hb
theorem eJ (e:En):apart er e:=fun b hb=>by cases hb
theorem eO (e:En):apart e er:=fun b _ hb=>by cases hb
theorem dg.upd {ι:Type} {c c':Cx} {M M':ι→Option En} (h:dg c M) (i:ι) {D:Nat→Prop} (hb:c.but D c') (hD:∀b,D b→∃e,M i=some e∧blk e.v=some b) (hM:∀j,j≠i→M' j=M j)
  {e':En} (hi:M' i=some e') (hon:e'.on c') (hnew:∀b,blk e'.v=some b→(∃e,M i=some e∧blk e.v=some b)∨c.w.heap.size≤b):dg c' M':=by
 have key:∀j e,j≠i→M' j=some e→e.on c':=fun j e hj he=>by
  rw [hM j hj] at he;refine (h.1 j e he).keep fun b hbe=>hb.same b ((h.1 j e he).lt hbe) fun hd=>?_;obtain ⟨e2,h2,h3⟩:=hD b hd;exact h.2 j i e e2 he h2 hj b hbe h3
 have far:∀j e,j≠i→M' j=some e→apart e e':=fun j e hj he b h1 h2=>by
  rw [hM j hj] at he;rcases hnew b h2 with ⟨e2,h3,h4⟩ | h3
  ·exact h.2 j i e e2 he h3 hj b h1 h4
  ·exact absurd ((h.1 j e he).lt h1) (Nat.not_lt.2 h3)
 classical
 refine ⟨fun j e he=>?_,fun j k e e2 he he2 hjk=>?_⟩
 ·by_cases hj:j=i
  ·subst hj; rw [hi] at he; cases he; exact hon
  ·exact key j e hj he
 ·by_cases hj:j=i
  ·subst hj;rw [hi] at he; cases he;exact fun b h1 h2=>far k e2 (Ne.symm hjk) he2 b h2 h1
  ·by_cases hk:k=i
   ·subst hk; rw [hi] at he2; cases he2; exact far j e hj he
   ·rw [hM j hj] at he; rw [hM k hk] at he2; exact h.2 j k e e2 he he2 hjk
theorem dg.re {ι κ:Type} {c:Cx} {M:ι→Option En} {M':κ→Option En} (h:dg c M) (f:κ→ι) (hf:∀k e,M' k=some e→M (f k)=some e) (inj:∀k k' e e',M' k=some e→M' k'=some e'→f k=f k'→k=k'):dg c M':=
 ⟨fun k e he=>h.1 _ e (hf k e he),fun k k' e e' he he' hne=>h.2 _ _ e e' (hf k e he) (hf k' e' he') fun hh=>hne (inj k k' e e' he he' hh)⟩
structure Own (c:Cx) (G:Gm) (F:List En):Prop where
 m:dg c (at_ G F)
 t0:∀g k,G g k= []→c.t g k=none
section
variable {c c':Cx} {G:Gm} {F:List En}
theorem Own.on (O:Own c G F) (k:Nat) {e:En} (h:F[k]? = some e):e.on c:=O.m.1 (.inl k) e h
theorem Own.gon (O:Own c G F) {g k:Nat} {E:List En} (hE:G g k=E) (r:Nat) {e:En} (h:E[r]? = some e):e.on c:=O.m.1 (.inr (g,k,r)) e (by subst hE; exact h)
theorem Own.keep (O:Own c G F) (h:c.but (fun _=>False) c'):Own c' G F:=
 ⟨⟨fun i e he=>(O.m.1 i e he).keep fun b hb=>h.same b ((O.m.1 i e he).lt hb) id,O.m.2⟩,fun g k hk=>by rw [h.t]; exact O.t0 g k hk⟩
theorem Own.set (O:Own c G F) (k:Nat) {e e':En} {D:Nat→Prop} (hk:F[k]? = some e) (hb:c.but D c') (hD:∀b,D b→blk e.v=some b) (hon:e'.on c') (hnew:∀b,blk e'.v=some b→blk e.v=some b∨c.w.heap.size≤b):Own c' G (F.set k e'):=
 ⟨dg.upd O.m (.inl k) hb (fun b h=>⟨e,hk,hD b h⟩) (fun j hj=>by
  cases j with
  | inl j=>exact bj (fun e=>hj (by rw [e]))
  | inr j=>rfl) (e':=e') (a6 (List.getElem?_eq_some_iff.1 hk).1) hon (fun b h=>(hnew b h).imp (fun h=>⟨e,hk,h⟩) id),fun g k hk=>by rw [hb.t]; exact O.t0 g k hk⟩
theorem Own.sel {F0:List En} {L:List En} (ix:List Nat) (O:Own c G (L++F0)) (hn:ix.Nodup) {L':List En} (hL:ix.map (fun i=>L[i]?)=L'.map some):Own c G (L'++F0):=by
 have hlen:ix.length=L'.length:=by have:=hU List.length hL; simpa using this
 have hget:∀(i:Nat) (hi:i < ix.length),L[ix[i]]? = some (L'[i]'(hlen▸ hi)):=fun i hi=>by
  have:=hU (fun l=>l[i]?) hL;simpa [aj hi,aj (hlen▸ hi:i < L'.length)] using this
 refine ⟨dg.re O.m (fun j=>match j with
  | .inl j=>if h:j < ix.length then .inl ix[j] else .inl (j - ix.length+L.length)
  | .inr j=> .inr j) ?_ ?_,O.t0⟩
 ·intro j e he
  cases j with
  | inr j=>exact he
  | inl j=>
   by_cases hj:j < ix.length
   ·simp only [hj,eX];have h2:=hget j hj;have hlt:=(List.getElem?_eq_some_iff.1 h2).1;simp only [at_] at he⊢;rw [ah (hlen▸ hj),aj (hlen▸ hj)] at he;rw [ah hlt,h2,he]
   ·simp only [hj,eY,dT];simp only [at_] at he⊢;rw [aq (by omega)] at he;rw [aq (by omega),←he]
    congr 1
    omega
 ·intro j j' e e' he he' hh
  cases j with
  | inr j=>
   cases j' with
   | inr j'=>exact hh
   | inl j'=>by_cases hj:j' < ix.length <;> simp [hj] at hh
  | inl j=>
   cases j' with
   | inr j'=>by_cases hj:j < ix.length <;> simp [hj] at hh
   | inl j'=>
    by_cases hj:j < ix.length
    ·have h1:=(List.getElem?_eq_some_iff.1 (hget j hj)).1;by_cases hj':j' < ix.length
     ·simp only [hj,hj',eX,dY] at hh;rw [(List.getElem_inj hn).1 hh]
     ·simp only [hj,hj',eX,eY,dT,dY] at hh;omega
    ·by_cases hj':j' < ix.length
     ·have h1:=(List.getElem?_eq_some_iff.1 (hget j' hj')).1;simp only [hj,hj',eX,eY,dT,dY] at hh;omega
     ·simp only [hj,hj',eY,dT,dY] at hh
      congr 1
      omega
theorem Own.cons (O:Own c G F) {e:En} {D:Nat→Prop} (hb:c.but D c') (hD:∀b,¬D b) (hon:e.on c') (hnew:∀b,blk e.v=some b→c.w.heap.size≤b):Own c' G (e :: F):=by
 have O1:dg c (at_ G (er :: F)):=by
  refine ⟨fun i e he=>?_,fun i j e e' he he' hij=>?_⟩
  ·cases i with
   | inr i=>exact O.m.1 (.inr i) e he
   | inl i=>cases i with
    | zero=>cases he; exact go c
    | succ i=>exact O.m.1 (.inl i) e he
  ·have pull:∀i,i≠ .inl 0→∀e,at_ G (er :: F) i=some e→∃i',at_ G F i'=some e∧(match i' with | .inl k=>i= .inl (k+1) | .inr k=>i= .inr k):=fun i hi e he=>by
    cases i with
    | inr i=>exact ⟨.inr i,he,rfl⟩
    | inl i=>cases i with
     | zero=>exact absurd rfl hi
     | succ i=>exact ⟨.inl i,he,rfl⟩
   by_cases hi:i= .inl 0
   ·subst hi; cases he; exact eJ _
   ·by_cases hj:j= .inl 0
    ·subst hj; cases he'; exact eO _
    ·obtain ⟨i',h1,h2⟩:=pull i hi e he;obtain ⟨j',h3,h4⟩:=pull j hj e' he';refine O.m.2 i' j' e e' h1 h3 fun hh=>hij ?_;subst hh
     cases i' <;> simp_all
 exact ⟨dg.upd O1 (.inl 0) hb (fun b h=>absurd h (hD b)) (fun j hj=>by
  cases j with
  | inr j=>rfl
  | inl j=>cases j with
   | zero=>exact absurd rfl hj
   | succ j=>rfl) (e':=e) rfl hon (fun b h=> .inr (hnew b h)),fun g k hk=>by rw [hb.t]; exact O.t0 g k hk⟩
theorem Own.addHole (O:Own c G F) {e:En} (he:blk e.v=none):Own c G (e :: F):=
 O.cons (D:=fun _=>False) ⟨Cx.le.refl c,rfl,fun _ _ _=>⟨rfl,fun _=>Iff.rfl⟩⟩ (fun _=>id) (fun b hb=>by rw [he] at hb; cases hb) (fun b hb=>by rw [he] at hb; cases hb)
theorem Own.tail {e:En} (O:Own c G (e :: F)):Own c G F:=
 ⟨dg.re O.m (fun j=>match j with | .inl j=> .inl (j+1) | .inr j=> .inr j) (fun j e he=>by cases j <;> exact he) (fun j j' _ _ _ _ h=>by
  cases j <;> cases j' <;> simp_all),O.t0⟩
def ca (G:Gm) (g k:Nat) (E:List En):Gm:=fun g' k'=>if g'=g∧k'=k then E else G g' k'
theorem a9 (G:Gm) (g k:Nat) (E:List En):ca G g k E g k=E:=by simp [ca]
theorem eI {c:Cx} {G:Gm} {g k:Nat} {E:List En} (h:∀g k,G g k= []→c.t g k=none) (hE:E= []→G g k= []):∀g' k',ca G g k E g' k'= []→c.t g' k'=none:=fun g' k' h'=>by
 simp only [ca] at h';split at h'
 ·rename_i hh
  obtain ⟨rfl,rfl⟩:=hh;exact h _ _ (hE h')
 ·exact h _ _ h'
theorem fh {α:Type} {E:List α} {r:Nat} {e:α} (h:E.set r e= []):E= []:=by
 have:=hU List.length h;rw [dA] at this;exact bk this
theorem cz {G:Gm} {g k g' k':Nat} {E:List En} (h:¬(g'=g∧k'=k)):ca G g k E g' k'=G g' k':=by simp only [ca,af h]
theorem Own.setR (O:Own c G F) {g k:Nat} {E:List En} (r:Nat) {e e':En} {D:Nat→Prop} (hE:G g k=E) (hr:E[r]? = some e) (hb:c.but D c') (hD:∀b,D b→blk e.v=some b) (hon:e'.on c') (hnew:∀b,blk e'.v=some b→blk e.v=some b∨c.w.heap.size≤b):
  Own c' (ca G g k (E.set r e')) F:=by
 subst hE;refine ⟨dg.upd O.m (.inr (g,k,r)) hb (fun b h=>⟨e,hr,hD b h⟩) (fun j hj=>?_) (e':=e') ?_ hon (fun b h=>(hnew b h).imp (fun h=>⟨e,hr,h⟩) id),eI (fun g k hk=>by rw [hb.t]; exact O.t0 g k hk) fh⟩
 ·cases j with
  | inl j=>rfl
  | inr j=>
   obtain ⟨g',k',r'⟩:=j;by_cases h:g'=g∧k'=k
   ·obtain ⟨rfl,rfl⟩:=h;simp only [at_,a9];exact bj (fun e=>hj (by rw [e]))
   ·simp only [at_,cz h]
 ·simp only [at_,a9];exact a6 (List.getElem?_eq_some_iff.1 hr).1
theorem Own.borrow (O:Own c G F) {g k:Nat} {E:List En} (r:Nat) {e:En} (hE:G g k=E) (hr:E[r]? = some e):Own c (ca G g k (E.set r er)) (e :: F):=by
 subst hE;have hlt:=(List.getElem?_eq_some_iff.1 hr).1;have main:∀g' k' r' e1,at_ (ca G g k ((G g k).set r er)) (e :: F) (.inr (g',k',r'))=some e1→(g',k',r')≠(g,k,r)→at_ G F (.inr (g',k',r'))=some e1:=fun g' k' r' e1 h1 hne=>by
  simp only [at_] at h1⊢;by_cases h:g'=g∧k'=k
  ·obtain ⟨rfl,rfl⟩:=h;rw [a9,bj (fun e=>hne (by rw [e]))] at h1;exact h1
  ·rwa [cz h] at h1
 have hh:∀e1,at_ (ca G g k ((G g k).set r er)) (e :: F) (.inr (g,k,r))=some e1→e1=er:=fun e1 h1=>by
  simp only [at_,a9] at h1;rw [a6 hlt] at h1
  cases h1; rfl
 classical
 let f:Nat ⊕ (Nat×Nat×Nat)→Nat ⊕ (Nat×Nat×Nat):=fun j=>match j with
  | .inl 0=> .inr (g,k,r)
  | .inl (j+1)=> .inl j
  | .inr j=> .inr j
 have hf:∀j e1,j≠ .inr (g,k,r)→at_ (ca G g k ((G g k).set r er)) (e :: F) j=some e1→at_ G F (f j)=some e1:=fun j e1 hj he=>by
  cases j with
  | inl j=>cases j with
   | zero=>cases he; exact hr
   | succ j=>exact he
  | inr j=>exact main j.1 j.2.1 j.2.2 e1 he (fun e=>hj (by rw [←e]))
 refine ⟨⟨fun j e1 he=>?_,fun j j' e1 e2 he he2 hne=>?_⟩,eI O.t0 fh⟩
 ·by_cases hj:j= .inr (g,k,r)
  ·subst hj; rw [hh e1 he]; exact go c
  ·exact O.m.1 (f j) e1 (hf j e1 hj he)
 ·by_cases hj:j= .inr (g,k,r)
  ·subst hj; rw [hh e1 he]; exact eJ _
  ·by_cases hj':j'= .inr (g,k,r)
   ·subst hj'; rw [hh e2 he2]; exact eO _
   ·refine O.m.2 (f j) (f j') e1 e2 (hf j e1 hj he) (hf j' e2 hj' he2) fun hff=>?_
    cases j with
    | inl j=>cases j with
     | zero=>cases j' with
      | inl j'=>cases j' with
       | zero=>exact hne rfl
       | succ j'=>simp [f] at hff
      | inr j'=>exact hj' (by simpa [f] using hff.symm)
     | succ j=>cases j' with
      | inl j'=>cases j' with
       | zero=>simp [f] at hff
       | succ j'=>exact hne (by simpa [f] using hff)
      | inr j'=>simp [f] at hff
    | inr j=>cases j' with
     | inl j'=>cases j' with
      | zero=>exact hj (by simpa [f] using hff)
      | succ j'=>simp [f] at hff
     | inr j'=>exact hne (by simpa [f] using hff)
theorem Own.give {e:En} (O:Own c G (e :: F)) {g k:Nat} {E:List En} (r:Nat) {e0:En} (hE:G g k=E) (hr:E[r]? = some e0):Own c (ca G g k (E.set r e)) F:=by
 subst hE;have hlt:=(List.getElem?_eq_some_iff.1 hr).1
 classical
 let f:Nat ⊕ (Nat×Nat×Nat)→Nat ⊕ (Nat×Nat×Nat):=fun j=>match j with
  | .inl j=> .inl (j+1)
  | .inr j=>if j=(g,k,r) then .inl 0 else .inr j
 refine ⟨dg.re O.m f (fun j e1 he=>?_) (fun j j' e1 e2 he he2 hff=>?_),eI O.t0 fh⟩
 ·cases j with
  | inl j=>exact he
  | inr j=>
   obtain ⟨g',k',r'⟩:=j;by_cases h0:(g',k',r')=(g,k,r)
   ·simp only [iN] at h0;obtain ⟨rfl,rfl,rfl⟩:=h0;simp only [at_,a9] at he;rw [a6 hlt] at he;simp only [f,ac];exact he
   ·simp only [f,af h0];simp only [at_] at he⊢;by_cases h:g'=g∧k'=k
    ·obtain ⟨rfl,rfl⟩:=h;rw [a9,bj (fun e=>h0 (by rw [e]))] at he;exact he
    ·rwa [cz h] at he
 ·cases j with
  | inl j=>cases j' with
   | inl j'=>simpa [f] using hff
   | inr j'=>by_cases h:j'=(g,k,r) <;> simp [f,h] at hff
  | inr j=>cases j' with
   | inl j'=>by_cases h:j=(g,k,r) <;> simp [f,h] at hff
   | inr j'=>
    by_cases h:j=(g,k,r)
    ·by_cases h':j'=(g,k,r)
     ·rw [h,h']
     ·simp [f,h,h'] at hff
    ·by_cases h':j'=(g,k,r)
     ·simp [f,h,h'] at hff
     ·simpa [f,h,h'] using hff
theorem e7 (G:Gm) (g k:Nat) (E E':List En):ca (ca G g k E) g k E'=ca G g k E':=by
 funext g' k'
 simp only [ca];split <;> rfl
theorem Own.giveB {e:En} {g k:Nat} {E:List En} (r:Nat) {e0:En} (O:Own c (ca G g k E) (e :: F)) (hr:E[r]? = some e0):Own c (ca G g k (E.set r e)) F:=by
 have:=Own.give O r (a9 G g k E) hr
 rwa [e7] at this
theorem dg.newObj {E:List En} (O:dg c (at_ G (E++F))) {g k:Nat} (hE:G g k= []):dg c (at_ (ca G g k E) F):=by
 classical
 let f:Nat ⊕ (Nat×Nat×Nat)→Nat ⊕ (Nat×Nat×Nat):=fun j=>match j with
  | .inl j=> .inl (j+E.length)
  | .inr j=>if j.1=g∧j.2.1=k then .inl j.2.2 else .inr j
 have hr:∀r e,at_ (ca G g k E) F (.inr (g,k,r))=some e→r < E.length:=fun r e he=>by
  simp only [at_,a9] at he;exact (List.getElem?_eq_some_iff.1 he).1
 refine dg.re O f (fun j e1 he=>?_) (fun j j' e1 e2 he he2 hff=>?_)
 ·cases j with
  | inl j=>
   simp only [f,at_] at he⊢;rw [aq (by omega)];rw [←he]; congr 1; omega
  | inr j=>
   obtain ⟨g',k',r'⟩:=j;by_cases h:g'=g∧k'=k
   ·simp only [f,ac h];obtain ⟨rfl,rfl⟩:=h;have:=hr _ _ he;simp only [at_,a9] at he⊢;rw [ah this]; exact he
   ·simp only [f,af h];simp only [at_,cz h] at he⊢;exact he
 ·cases j with
  | inl j=>cases j' with
   | inl j'=>simpa [f] using hff
   | inr j'=>
    obtain ⟨g',k',r'⟩:=j';by_cases h:g'=g∧k'=k
    ·obtain ⟨rfl,rfl⟩:=h;have:=hr _ _ he2;simp [f] at hff;omega
    ·simp [f,h] at hff
  | inr j=>
   obtain ⟨g1,k1,r1⟩:=j
   cases j' with
   | inl j'=>
    by_cases h:g1=g∧k1=k
    ·obtain ⟨rfl,rfl⟩:=h;have:=hr _ _ he;simp [f] at hff;omega
    ·simp [f,h] at hff
   | inr j'=>
    obtain ⟨g',k',r'⟩:=j';by_cases h:g1=g∧k1=k
    ·by_cases h':g'=g∧k'=k
     ·simp only [f,ac h,ac h',dY] at hff;obtain ⟨rfl,rfl⟩:=h;obtain ⟨rfl,rfl⟩:=h';rw [hff]
     ·simp [f,h,h'] at hff
    ·by_cases h':g'=g∧k'=k
     ·simp [f,h,h'] at hff
     ·simpa [f,h,h'] using hff
theorem Own.newObj {E:List En} (O:Own c G (E++F)) {g k b:Nat} (hE:G g k= []) (hne:E≠ []):∃c',(c'.w=c.w∧c'.A=c.A)∧c.le c'∧c'.t g k=some b∧Own c' (ca G g k E) F:=by
 have ht:∀g' k' b',c.t g' k'=some b'→¬(g'=g∧k'=k):=fun g' k' b' h hh=>by
  obtain ⟨rfl,rfl⟩:=hh;rw [O.t0 _ _ hE] at h;cases h
 refine ⟨⟨c.w,c.A,fun g' k'=>if g'=g∧k'=k then some b else c.t g' k'⟩,⟨rfl,rfl⟩,⟨rfl,rfl,ak _,fun _ _ _ h=>⟨rfl,h⟩,fun _ _ _=>rfl,fun _ _ _=>rfl,fun g' k' b' h=>?_⟩,by simp,⟨dg.newObj O.m hE,fun g' k' h=>?_⟩⟩
 ·simp only [af (ht g' k' b' h)];exact h
 ·simp only [ca] at h⊢;split at h
  ·exact absurd h hne
  ·rename_i hh
   simp only [af hh];exact O.t0 _ _ h
structure Rl {α:Type} (Y:Cx→Option Nat→List En→α→Prop) (g:Nat) (c:Cx) (G:Gm) (xs:List α):Prop where
 ob:∀k x,xs[k]? = some x→Y c (c.t g k) (G g k) x
 no:∀k,xs.length≤k→G g k= []
variable {α:Type} {Y:Cx→Option Nat→List En→α→Prop} {g:Nat} {xs:List α}
theorem Rl.mono (h:Rl Y g c G xs) (hm:∀b E x,Y c (some b) E x→Y c' (some b) E x) (hs:∀E x,¬Y c none E x) (hk:c.lw c'):Rl Y g c' G xs:=
 ⟨fun k x hx=>by
  have:=h.ob k x hx
  cases hb:c.t g k with
  | none=>rw [hb] at this; exact absurd this (hs _ _)
  | some b=>rw [hb] at this; rw [hk.t g k b hb]; exact hm b _ _ this,h.no⟩
theorem Rl.set (h:Rl Y g c G xs) {k:Nat} {E:List En} {x:α} (hk:k < xs.length) (hY:Y c (c.t g k) E x):Rl Y g c (ca G g k E) (xs.set k x):=
 ⟨fun j y hy=>by
  by_cases hj:j=k
  ·subst hj;rw [a6 hk] at hy;cases hy;rw [a9]; exact hY
  ·rw [bj (Ne.symm hj)] at hy;rw [cz (fun e=>hj e.2)];exact h.ob j y hy,fun j hj=>by
  rw [dA] at hj;rw [cz (fun e=>by omega)];exact h.no j hj⟩
theorem Rl.new (h:Rl Y g c G xs) {E:List En} {x:α} (hY:Y c (c.t g xs.length) E x):Rl Y g c (ca G g xs.length E) (xs++ [x]):=
 ⟨fun j y hy=>by
  by_cases hj:j=xs.length
  ·subst hj;rw [aq (ak _)] at hy;simp at hy;subst hy;rw [a9]; exact hY
  ·have hlt:j < xs.length:=by
    have:=(List.getElem?_eq_some_iff.1 hy).1;rw [aA] at this;simp at this;omega
   rw [ah hlt] at hy;rw [cz (fun e=>hj e.2)];exact h.ob j y hy,fun j hj=>by
  rw [aA] at hj;simp at hj;rw [cz (fun e=>by omega)];exact h.no j (by omega)⟩
end
end Go.Lt
namespace Go.Lt
def aR (c:Cx) (X:Cx→Value→Prop):Ending→World→Prop:=fun x w=>∃v c',x= .returned v∧w=c'.w∧c.le c'∧X c' v
def Kp (G:Gm) (N:List En) (c:Cx):Prop:=∀i e,at_ G N i=some e→e.on c
theorem Kp.nil {c:Cx} {G:Gm} {F:List En} (O:Own c G F):Kp G [] c:=fun i e h=>by
 cases i with
 | inl i=>simp [at_] at h
 | inr i=>exact O.m.1 (.inr i) e h
def G0:Gm:=fun _ _=>[]
theorem Kp.nil0 {c:Cx}:Kp G0 [] c:=fun i e h=>by
 cases i <;> simp [at_,G0] at h
theorem Kp.cons {c:Cx} {G:Gm} {N:List En} {e:En} (h:e.on c) (k:Kp G N c):Kp G (e :: N) c:=fun i e' h'=>by
 cases i with
 | inl i=>cases i with
  | zero=>cases h'; exact h
  | succ i=>exact k (.inl i) e' h'
 | inr i=>exact k (.inr i) e' h'
theorem Kp.on {c:Cx} {G:Gm} {N:List En} (h:Kp G N c) (k:Nat) {e:En} (hk:N[k]? = some e):e.on c:=h (.inl k) e hk
theorem Kp.gon {c:Cx} {G:Gm} {N:List En} (h:Kp G N c) {g k:Nat} {E:List En} (hE:G g k=E) (r:Nat) {e:En} (hr:E[r]? = some e):e.on c:=h (.inr (g,k,r)) e (by subst hE; exact hr)
def jp (ops:Array Oper) (li:List Bool) (i:Nat) (B:List Nat):List Nat:=
 (List.range ops.size).filter fun j=> !li.getD j true && !(j==i) && (ops[j]?).any fun o=>o.after.any fun x=>Region.binds .any x && ((x.on==i && !li.getD i true) || B.contains x.on)
def gP (ops:Array Oper) (li:List Bool) (i:Nat):Nat→List Nat
 | 0=>[]
 | n+1=>jp ops li i (gP ops li i n)
def okB (ops:Array Oper) (li:List Bool) (i:Nat) (D:List Nat):Bool:=
 let B:=gP ops li i ops.size
 B.all (fun j=> !li.getD j true && !(j==i) && (ops[j]?).any fun o=>o.after.any fun x=>Region.binds .any x && (x.on==i || B.contains x.on)) && D.all fun j=>li.getD j true || B.contains j
section
variable {P:Program} {ops:Array Oper} {n:Fr} {r:Option Nat} {Q:Exit→(Nat→Value)→World→Prop} {D:List Nat} {K:Cx→Prop}
def dZ (r:Option Nat) (D:List Nat) (K:Cx→Prop) (P:Program) (ops:Array Oper) (Q:Exit→Act→World→Prop):Nat→Array Bool→Act→Cx→Prop
 | 0,listed,a,c=>Region.ready .any ops listed= []∧Q .normal a c.w
 | fuel+1,listed,a,c=>(Region.ready .any ops listed= []→Q .normal a c.w)∧
  ∀i∈Region.ready .any ops listed,wpOpIn (fen r) 0 P ops Q i (fun a' w=>∃c',w=c'.w∧c.le c'∧(i∈D∨(K c→K c'))∧dZ r D K P ops Q fuel (listed.setIfInBounds i true) a' c') a c.w
theorem dZ.sound {Q:Exit→Act→World→Prop}:∀(fuel:Nat) (listed:Array Bool) (a:Act) (c:Cx),dZ r D K P ops Q fuel listed a c→wpAnyIn (fen r) 0 P .any ops Q fuel listed a c.w
 | 0,_,_,_,h=>h
 | _+1,_,_,_,h=>⟨h.1,fun i hi=>wpOpIn_mono (fun a w ⟨c',hw,_,_,h'⟩=>by subst hw; exact dZ.sound _ _ _ _ h') (h.2 i hi)⟩
def Yl (Z:Cx→Prop) (P:Program) (ops:Array Oper) (o:Oper) (v:Value) (a:Act) (c:Cx):Prop:=
 (Region.wanted o (yielded ops a.tmps)=true∧∀c',c.le c'→Z c'→(execOp a.eval o).run P c'.w= .ok (.value v) c'.w)∨
 (Region.wanted o (yielded ops a.tmps)=false∧v=undef)
theorem gt (o:Oper) (hs:∀cs b,o.op≠ .select cs b) (a:Act) (dst:Option Tmp) (v:Value) (h:∀d,dst=some d→d∉o.looksAt ops):
  o.semAt r (a.put dst v).eval=o.semAt r a.eval:=by
 by_cases hd:∀c,o.op≠ .defer c
 ·rw [iO _ _ _ hd,iO _ _ _ hd];exact j5 o hs a dst v h
 ·obtain ⟨c,hc⟩:=Classical.not_forall.1 hd;have hc:=Classical.not_not.1 hc;have he:resolve (a.put dst v).eval c o.type=resolve a.eval c o.type:=resolve_congr c o.type fun x hx=>Act.eval_put fun d hd hxd=>h d hd (by
   subst hxd;exact dv _ (List.mem_filterMap.2 ⟨.tmp d,by rw [hc]; simpa [Op.operands] using hx,rfl⟩))
  cases r with
  | none=>exact j5 o hs a dst v h
  | some l=>
   unfold Oper.semAt;rw [hc];simp only [he]
theorem Yl.wpOp {Z:Cx→Prop} {i:Nat} {o:Oper} {v:Value} {a:Act} {c:Cx} (hz:Z c) (hi:ops[i]? = some o) (hy:Yl Z P ops o v a c) {Q:Exit→Act→World→Prop} {K:Act→World→Prop}
  (h:K (a.put o.dst v) c.w):wpOpIn (fen r) 0 P ops Q i K a c.w:=by
 unfold Go.wpOpIn;simp only [hi];rcases hy with ⟨hw,hv⟩ | ⟨hw,rfl⟩
 ·rw [ac hw];refine ⟨fun _ _=>trivial,?_⟩;rw [dG (hv c (Cx.le.refl c) hz) (by simp),kl];exact h
 ·rw [af (by rw [hw]; simp)];exact ⟨fun _ _=>trivial,h⟩
def Wt (ops:Array Oper) (listed:Array Bool) (i:Nat) (B:List Nat):Prop:=
 ∀j∈B,listed.getD j true=false∧j≠i∧∃oj,ops[j]? = some oj∧∃x∈oj.after,Region.binds .any x=true∧(x.on=i∨x.on∈B)
theorem fc (l:List Bool) (j:Nat):l.toArray.getD j true=l.getD j true:=by simp [aM,ii]
theorem g8 {l:List Oper} {li:List Bool} {i:Nat} {D:List Nat} (h:okB l.toArray li i D=true):∃B,Wt l.toArray li.toArray i B∧∀j∈D,li.toArray.getD j true=true∨j∈B:=by
 refine ⟨gP l.toArray li i l.toArray.size,fun j hj=>?_,fun j hj=>?_⟩
 ·simp only [okB,aG,gk] at h;have:=h.1 j hj;simp only [Bool.not_eq_true',beq_eq_false_iff_ne,ne_eq] at this;obtain ⟨⟨h1,h2⟩,h3⟩:=this;refine ⟨by rw [fc]; exact h1,h2,?_⟩
  cases ho:l.toArray[j]? with
  | none=>rw [ho] at h3; cases h3
  | some oj=>
   rw [ho] at h3;simp only [Option.any_some,Array.any_eq_true',aG,aT,dd,jo] at h3;obtain ⟨x,hx,hb,hon⟩:=h3;exact ⟨oj,rfl,x,hx,hb,hon⟩
 ·simp only [okB,aG,gk] at h;have:=h.2 j hj;simp only [aT,jo] at this;rw [fc];exact this
theorem dZ.first {Q:Exit→Act→World→Prop} (hP:∀ch a w,¬Q (.panic ch) a w) (hO:∀a w,¬Q .outgrown a w) {i:Nat} {oi:Oper} {v:Value} (hi:ops[i]? = some oi)
  (hsel:∀(j:Nat) (o:Oper) cs b,ops[j]? = some o→o.op≠ .select cs b) {Z:Cx→Prop} {B:List Nat} (hZ:(∀c,Z c)∨Z=K):
  ∀(fuel:Nat) (listed:Array Bool) (a:Act) (c:Cx),
   (∀j oj,ops[j]? = some oj→j≠i→listed.getD j true=false→(∀x∈oj.after,Region.binds .any x=true→x.on≠i)→oi.apart ops oj=true)→
   Wt ops listed i B→((∀c,Z c)∨∀j∈D,listed.getD j true=true∨j∈B)→Z c→
   i∈Region.ready .any ops listed→Yl Z P ops oi v a c→
   dZ r D K P ops Q fuel (listed.setIfInBounds i true) (a.put oi.dst v) c→dZ r D K P ops Q (fuel+1) listed a c:=by
 have notB:∀(listed:Array Bool) j,Wt ops listed i B→i∈Region.ready .any ops listed→j∈Region.ready .any ops listed→j∉B:=fun listed j hW hr hj hB=>by
  obtain ⟨_,_,oj,hoj,x,hx,hb,hon⟩:=hW j hB;obtain ⟨_,oj',hoj',hall⟩:=mem_ready.1 hj;rw [hoj] at hoj';cases hoj';have h1:=hall x hx hb;have h0:listed.getD x.on true=false:=by
   rcases hon with h | h
   ·rw [h]; exact (mem_ready.1 hr).1
   ·exact (hW _ h).1
  rcases bi x.on listed.size with h' | h'
  ·simp [h'] at h0 h1; rw [h0] at h1; cases h1
  ·simp [jl h'] at h1
 intro fuel
 induction fuel with
 | zero=>
  intro listed a c _ hW hD hz hr hy H;refine ⟨fun h=>(by rw [h] at hr; cases hr),fun j hj=>?_⟩;by_cases hji:j=i
  ·subst hji; exact hy.wpOp hz hi ⟨c,rfl,Cx.le.refl c,.inr id,H⟩
  ·have:=jW hj hji;rw [H.1] at this;cases this
 | succ fuel ih=>
  intro listed a c hfree hW hD hz hr hy H;refine ⟨fun h=>(by rw [h] at hr; cases hr),fun j hj=>?_⟩;by_cases hji:j=i
  ·subst hji; exact hy.wpOp hz hi ⟨c,rfl,Cx.le.refl c,.inr id,H⟩
  ·have h1:=H.2 j (jW hj hji);obtain ⟨hjun,oj,hoj,hall⟩:=mem_ready.1 hj;have hnot:∀x∈oj.after,Region.binds .any x=true→x.on≠i:=fun x hx hb heq=>by
    have h1:=hall x hx hb;have h0:=(mem_ready.1 hr).1;rw [heq] at h1;rcases bi i listed.size with h' | h'
    ·simp [h'] at h0 h1; rw [h0] at h1; cases h1
    ·simp [jl h'] at h1
   obtain ⟨ha1,ha2,ha3⟩:=Oper.apart_spec (hfree j oj hoj hji hjun hnot);have hfree':∀k ok,ops[k]? = some ok→k≠i→(listed.setIfInBounds j true).getD k true=false→
     (∀x∈ok.after,Region.binds .any x=true→x.on≠i)→oi.apart ops ok=true:=fun k ok hk hki hun hno=>by
    refine hfree k ok hk hki ?_ hno;by_cases hjk:j=k
    ·subst hjk; exact hjun
    ·rw [jB true hjk] at hun; exact hun
   have hW':Wt ops (listed.setIfInBounds j true) i B:=fun k hk=>by
    obtain ⟨h1,h2⟩:=hW k hk;refine ⟨?_,h2⟩;have hjk:j≠k:=fun e=>by subst e; exact notB listed j hW hr hj hk
    rw [jB true hjk];exact h1
   have hD':(∀c,Z c)∨∀k∈D,(listed.setIfInBounds j true).getD k true=true∨k∈B:=hD.imp id fun h k hk=>by
    rcases h k hk with h | h
    ·by_cases hjk:j=k
     ·subst hjk; rw [hjun] at h; cases h
     ·exact .inl (by rw [jB true hjk]; exact h)
    ·exact .inr h
   have keep:∀(b:Act),b.tmps=a.tmps→∀(u:Value) (c':Cx),c.le c'→Yl Z P ops oi v (b.put oj.dst u) c':=fun b hb u c' hc=>by
    have hbe:b.eval=a.eval:=by funext x; cases x <;> simp [Act.eval,hb]
    have he:execOp (b.put oj.dst u).eval oi=execOp a.eval oi:=hbe▸ j5 oi (fun cs b=>hsel i oi cs b hi) _ _ _ ha3;have hw:Region.wanted oi (yielded ops (b.put oj.dst u).tmps)=Region.wanted oi (yielded ops a.tmps):=hb▸ wanted_put oi _ _ _ ha3;unfold Yl at hy⊢;rw [he,hw];exact hy.imp (fun ⟨h1,h2⟩=>⟨h1,fun c'' h hz=>h2 c'' (hc.trans h) hz⟩) id
   have fin:∀(b:Act),b.tmps=a.tmps→∀(u:Value) (w:World),(∃c',w=c'.w∧c.le c'∧(j∈D∨(K c→K c'))∧dZ r D K P ops Q fuel ((listed.setIfInBounds i true).setIfInBounds j true) ((b.put oi.dst v).put oj.dst u) c')→
     ∃c',w=c'.w∧c.le c'∧(j∈D∨(K c→K c'))∧dZ r D K P ops Q (fuel+1) (listed.setIfInBounds j true) (b.put oj.dst u) c':=by
    rintro b hb u w ⟨c',rfl,hle,hk,h⟩;have hz':Z c':=by
     rcases hZ with h | h
     ·exact h c'
     ·rcases hD with h2 | h2
      ·exact h2 c'
      ·rcases hk with h3 | h3
       ·rcases h2 j h3 with h4 | h4
        ·rw [hjun] at h4; cases h4
        ·exact absurd h4 (notB listed j hW hr hj)
       ·subst h; exact h3 hz
    refine ⟨c',rfl,hle,hk,ih _ _ _ hfree' hW' hD' hz' (jW hr (Ne.symm hji)) (keep b hb u c' hle) ?_⟩;rw [Array.setIfInBounds_comm _ _ hji,←Act.put_comm b v u ha2];exact h
   have he:oj.semAt r (a.put oi.dst v).eval=oj.semAt r a.eval:=gt oj (fun cs b=>hsel j oj cs b hoj) _ _ _ ha1;have hw:Region.wanted oj (yielded ops (a.put oi.dst v).tmps)=Region.wanted oj (yielded ops a.tmps):=wanted_put oj _ _ _ ha1;unfold Go.wpOpIn at h1⊢;simp only [hoj] at h1⊢;rw [hw] at h1;split
   ·rename_i hww
    rw [ac hww] at h1;refine ⟨fun _ _=>trivial,?_⟩;have h1:=h1.2;have hro:(fen r).round=r:=rfl;rw [hro,he] at h1;rw [hro];generalize (oj.semAt r a.eval).run P c.w=res at h1⊢
    cases res with
    | ok x w'=>
     cases x <;> simp only [Oper.uponIn] at h1⊢
     case value u=>exact fin a rfl _ _ h1
     case skip=>exact fin a rfl _ _ h1
     case defer d=>rw [Act.put_defers] at h1; exact fin { a with defers:=_ :: a.defers} rfl _ _ h1
     case enter f args=>
      refine ⟨h1.1,h1.2.mono fun x w'' hx=>?_⟩
      cases x with
      | returned u=>exact fin a rfl _ _ hx
      | panicked ch=>exact absurd hx (hP _ _ _)
      | outgrown=>obtain ⟨a1,w1,h3⟩:=hx; exact absurd h3 (hO _ _)
     case row row args=>exact ⟨h1.1,h1.2.mono fun u w'' hv=>fin a rfl _ _ hv⟩
     case round l f tmps assign body=>
      refine ⟨h1.1,h1.2.mono fun x w'' hx=>?_⟩
      cases x with
      | returned u=>exact fin a rfl _ _ hx
      | panicked ch=>exact absurd hx (hP _ _ _)
      | outgrown=>obtain ⟨a1,w1,h3⟩:=hx; exact absurd h3 (hO _ _)
    | halt x w'=>
     cases x <;> simp only [Oper.uponIn] at h1⊢
     case panic u=>exact absurd h1 (hP _ _ _)
   ·rename_i hww
    rw [af hww] at h1;exact ⟨fun _ _=>trivial,fin a rfl _ _ h1.2⟩
def AC (D:List Nat) (K:Cx→Prop) (P:Program) (l:List Oper) (n:Fr) (Q:Exit→(Nat→Value)→World→Prop) (fuel:Nat) (li:List Bool) (e:Nat→Value) (c:Cx):Prop:=
 dZ n.ro D K P l.toArray (fH n Q) fuel li.toArray (act n e) c
theorem Cx.drew_le (c:Cx):c.but (fun _=>False) ⟨c.w.drew,c.A,c.t⟩:=⟨⟨rfl,rfl,ak _,fun _ _ _ h=>⟨rfl,h⟩,fun _ _ _=>rfl,fun _ _ _=>rfl,fun _ _ _ h=>h⟩,rfl,fun _ _ _=>⟨rfl,fun _=>Iff.rfl⟩⟩
theorem W.regionD (D:List Nat) (K:Cx→Prop) {id:Nat} {l:List Oper} {e:Nat→Value} {c:Cx} {G:Gm} {F:List En} (O:Own c G F) (hm:P.follows .mixedOrders=true)
  (h:∀c',c.le c'→Own c' G F→AC D K P l n Q l.length (List.replicate l.length false) e c'):W P n (.region id l.toArray true) Q e c.w:=
 wpIn_region_any hm (by
  have:=dZ.sound _ _ _ _ (h _ (Cx.drew_le c).le (O.keep (Cx.drew_le c)));rw [show (List.replicate l.length false).toArray=Array.replicate l.toArray.size false by simp] at this;exact this)
variable {l:List Oper} {fuel:Nat} {li:List Bool} {e:Nat→Value} {c:Cx} {o:Oper}
theorem AC.take0 {Z:Cx→Prop} {B:List Nat} (hZ:(∀c,Z c)∨Z=K) {i:Nat} {v:Value} (hi:l.toArray[i]? = some o) (hs:Region.noSelect l.toArray=true) (hf:Region.free .any l.toArray li.toArray i=true)
  (hr:(Region.ready .any l.toArray li.toArray).contains i=true) (hB:Wt l.toArray li.toArray i B) (hD:(∀c,Z c)∨∀j∈D,li.toArray.getD j true=true∨j∈B) (hz:Z c) (hy:Yl Z P l.toArray o v (act n e) c)
  (h:AC D K P l n Q fuel (li.set i true) (upO e o.dst v) c):AC D K P l n Q (fuel+1) li e c:=by
 refine dZ.first (fun ch a w h=>h.1) (fun a w h=>h.1) hi (Region.noSelect_spec hs) hZ fuel _ _ c (Region.free_spec hi hf) hB hD hz (by simpa using hr) hy ?_;rw [dz];simpa [AC] using h
def tk (l:List Oper) (n:Nat) (li:List Bool) (i:Nat):Bool:=
 Region.noSelect l.toArray && Region.free .any l.toArray li.toArray i && (Region.ready .any l.toArray li.toArray).contains i && a8 n l
theorem AC.take (i:Nat) (v:Value) (hi:l.toArray[i]? = some o) (ht:tk l n li i=true) (hw:bv l.toArray n e o=true)
  (hy:∀c',c.le c'→(execOp (ev n e) o).run P c'.w= .ok (.value v) c'.w) (h:AC D K P l n Q fuel (li.set i true) (upO e o.dst v) c):AC D K P l n Q (fuel+1) li e c:=by
 simp only [tk,aG] at ht;exact AC.take0 (Z:=fun _=>True) (B:=[]) (.inl fun _=>trivial) hi ht.1.1.1 ht.1.1.2 ht.1.2 (fun j hj=>by simp at hj) (.inl fun _=>trivial) trivial (.inl ⟨by rw [dh _ _ _ _ (bT ht.2)]; exact hw,by rw [cp]; exact fun c' hc _=>hy c' hc⟩) h
theorem AC.takeb (i:Nat) {t b:Bool} (htb:t=b) (hi:l.toArray[i]? = some o) (ht:tk l n li i=true) (hw:bv l.toArray n e o=true)
  (hy:∀c',c.le c'→(execOp (ev n e) o).run P c'.w= .ok (.value (.bool t)) c'.w) (h:AC D K P l n Q fuel (li.set i true) (upO e o.dst (.bool b)) c):AC D K P l n Q (fuel+1) li e c:=by
 subst htb;exact AC.take i _ hi ht hw hy h
theorem AC.takeK (i:Nat) (v:Value) (hk:K c) (hi:l.toArray[i]? = some o) (ht:tk l n li i=true) (hB:okB l.toArray li i D=true) (hw:bv l.toArray n e o=true)
  (hy:∀c',c.le c'→K c'→(execOp (ev n e) o).run P c'.w= .ok (.value v) c'.w) (h:AC D K P l n Q fuel (li.set i true) (upO e o.dst v) c):AC D K P l n Q (fuel+1) li e c:=by
 simp only [tk,aG] at ht;obtain ⟨B,h1,h2⟩:=g8 hB;exact AC.take0 (Z:=K) (B:=B) (.inr rfl) hi ht.1.1.1 ht.1.1.2 ht.1.2 h1 (.inr h2) hk (.inl ⟨by rw [dh _ _ _ _ (bT ht.2)]; exact hw,by rw [cp]; exact hy⟩) h
theorem AC.pass (i:Nat) (hi:l.toArray[i]? = some o) (ht:tk l n li i=true) (hw:bv l.toArray n e o=false)
  (h:AC D K P l n Q fuel (li.set i true) (upO e o.dst undef) c):AC D K P l n Q (fuel+1) li e c:=by
 simp only [tk,aG] at ht;exact AC.take0 (Z:=fun _=>True) (B:=[]) (.inl fun _=>trivial) hi ht.1.1.1 ht.1.1.2 ht.1.2 (fun j hj=>by simp at hj) (.inl fun _=>trivial) trivial (.inr ⟨by rw [dh _ _ _ _ (bT ht.2)]; exact hw,rfl⟩) h
def Go1 (D:List Nat) (K:Cx→Prop) (P:Program) (l:List Oper) (n:Fr) (Q:Exit→(Nat→Value)→World→Prop) (fuel:Nat) (li:List Bool) (e:Nat→Value) (c:Cx) (i:Nat):Prop:=
 wpOpIn (fen n.ro) 0 P l.toArray (fH n Q) i (fun a' w=>∃c',w=c'.w∧c.le c'∧(i∈D∨(K c→K c'))∧dZ n.ro D K P l.toArray (fH n Q) fuel (li.toArray.setIfInBounds i true) a' c') (act n e) c.w
def iK (p:Nat→Prop):List Nat→Prop
 | []=>True
 | i :: l=>p i∧iK p l
theorem iK.mem {p:Nat→Prop}:∀{l:List Nat},iK p l→∀i∈l,p i
 | [],_,i,hi=>by cases hi
 | a :: l,h,i,hi=>by
  rcases List.mem_cons.1 hi with rfl | hi
  ·exact h.1
  ·exact h.2.mem i hi
theorem AC.many (is:List Nat) (hne:is≠ []) (hr:Region.ready .any l.toArray li.toArray=is) (h:iK (Go1 D K P l n Q fuel li e c) is):AC D K P l n Q (fuel+1) li e c:=
 ⟨fun h0=>(by rw [hr] at h0; exact absurd h0 hne),fun j hj=>h.mem j (hr▸ hj)⟩
theorem Go1.mk {i:Nat} (hi:l.toArray[i]? = some o) (hsl:a8 n l=true) (hw:bv l.toArray n e o=true)
  (h:o.wpIn (fen n.ro) 0 P (act n e) c.w (fun a w=>∃e' c',a=act n e'∧w=c'.w∧c.le c'∧(i∈D∨(K c→K c'))∧AC D K P l n Q fuel (li.set i true) e' c') (fH n Q)):Go1 D K P l n Q fuel li e c i:=by
 unfold Go1 wpOpIn;simp only [hi];rw [ac (by rw [dh _ _ _ _ (bT hsl)]; exact hw)];refine Oper.wpIn_mono ?_ h;rintro a w ⟨e',c',rfl,rfl,hle,hk,h'⟩;exact ⟨c',rfl,hle,hk,by simpa [AC] using h'⟩
theorem Go1.val {i:Nat} {v:Value} {c':Cx} (hi:l.toArray[i]? = some o) (hsl:a8 n l=true) (hw:bv l.toArray n e o=true)
  (hrun:(execOp (ev n e) o).run P c.w= .ok (.value v) c'.w) (hle:c.le c') (hk:D.contains i=true∨K c') (h:AC D K P l n Q fuel (li.set i true) (upO e o.dst v) c'):Go1 D K P l n Q fuel li e c i:=
 Go1.mk hi hsl hw (g6 hrun ⟨_,c',rfl,rfl,hle,hk.imp (by simp) fun h _=>h,h⟩)
theorem Go1.do_ {i:Nat} {c':Cx} (hi:l.toArray[i]? = some o) (hsl:a8 n l=true) (hw:bv l.toArray n e o=true)
  (hrun:(execOp (ev n e) o).run P c.w= .ok .skip c'.w) (hle:c.le c') (hk:D.contains i=true∨K c') (h:AC D K P l n Q fuel (li.set i true) (upO e o.dst undef) c'):Go1 D K P l n Q fuel li e c i:=
 Go1.mk hi hsl hw (iV hrun ⟨_,c',rfl,rfl,hle,hk.imp (by simp) fun h _=>h,h⟩)
theorem Go1.call {i:Nat} {f:FuncId} {args:Array Value} {X:Cx→Value→Prop} (hi:l.toArray[i]? = some o) (hsl:a8 n l=true) (hw:bv l.toArray n e o=true)
  (hrun:(execOp (ev n e) o).run P c.w= .ok (.enter f args) c.w) (hc:Calls P f args c.w (aR c X))
  (h:∀v c',c.le c'→X c' v→(D.contains i=true∨K c')∧AC D K P l n Q fuel (li.set i true) (upO e o.dst v) c'):Go1 D K P l n Q fuel li e c i:=
 Go1.mk hi hsl hw (gl hrun (hc.mono fun x w=>by
  rintro ⟨v,c',rfl,rfl,hx,hX⟩;have:=h v c' hx hX;exact ⟨v,rfl,_,c',rfl,rfl,hx,this.1.imp (by simp) fun h _=>h,this.2⟩))
theorem AC.done (hr:Region.ready .any l.toArray li.toArray= []) (h:Q .normal e c.w):AC D K P l n Q fuel li e c:=by
 cases fuel with
 | zero=>exact ⟨hr,trivial,e,rfl,h⟩
 | succ k=>exact ⟨fun _=>⟨trivial,e,rfl,h⟩,by rw [hr]; simp⟩
theorem AC.gh {c':Cx} (hw:c'.w=c.w) (hA:c.le c') (hk:K c→K c') (h:AC D K P l n Q fuel li e c'):AC D K P l n Q fuel li e c:=by
 have key:∀(fuel:Nat) (listed:Array Bool) (a:Act),dZ n.ro D K P l.toArray (fH n Q) fuel listed a c'→dZ n.ro D K P l.toArray (fH n Q) fuel listed a c:=fun fuel listed a h=>by
  cases fuel with
  | zero=>exact ⟨h.1,by rw [←hw]; exact h.2⟩
  | succ fuel=>
   refine ⟨fun h0=>by rw [←hw]; exact h.1 h0,fun i hi=>?_⟩;have:=h.2 i hi;rw [hw] at this;exact wpOpIn_mono (fun a w ⟨c2,h1,h2,h3,h4⟩=>⟨c2,h1,hA.trans h2,h3.imp id fun h5 h6=>h5 (hk h6),h4⟩) this
 exact key _ _ _ h
theorem WL.callP {ops:Array Oper} {rest:List Oper} {f:FuncId} {args:Array Value} {X:Cx→Value→Prop} (hg:o.guard=none) (hr:(execOp (ev n e) o).run P c.w= .ok (.enter f args) c.w)
  (hc:Calls P f args c.w (aR c X)) (h:∀v c',c.le c'→X c' v→WL P ops n Q rest (upO e o.dst v) c'.w):WL P ops n Q (o :: rest) e c.w:=
 WL.call hg hr (hc.mono fun x w ⟨v,c',h1,h2,h3,h4⟩=>⟨v,h1,by subst h2; exact h v c' h3 h4⟩)
theorem WL.gh {ops:Array Oper} {rest:List Oper} {c':Cx} (hw:c'.w=c.w) (h:WL P ops n Q rest e c'.w):WL P ops n Q rest e c.w:=hw▸ h
end
end Go.Lt
namespace Go.Lt
section
variable {P:Program} {c c':Cx} {G:Gm} {F:List En} {α:Type} {R:Rp α}
theorem rv {s:Sem Value} {w w':World} {v:Value} (h:s.run P w= .ok v w'):(do pure (Next.value (←s)):Sem Next).run P w= .ok (.value v) w':=by
  simp [h,Result.andThen]
theorem rs {s:Sem Unit} {w w':World} (h:s.run P w= .ok () w'):(do s; pure Next.skip:Sem Next).run P w= .ok .skip w':=by
  simp [h,Result.andThen]
theorem rx {ρ:Operand→Value} {o:Oper} {s:Sem Value} {w w':World} {v:Value} (hx:execOp ρ o=(do pure (Next.value (←s)):Sem Next)) (h:s.run P w= .ok v w'):(execOp ρ o).run P w= .ok (.value v) w':=by
  rw [hx];exact rv h
theorem gw {v:Value} {xs:List α} {T E:TypeId} {k:IntKind} {i:Int} {x:α} (hT:P.underlying T=some (.slice E)) (hE:(P.info? E).map (·.size)=some R.size)
    (h:Sl R c v xs) (hi:idx xs i=some x) (w:World):(Instr.indexAt T v (.int k i)).run P w= .ok (.pointer (some ⟨sb v,so v+i.toNat * R.size,none⟩)) w:=by
  obtain ⟨a,cap,rfl,_,_,h4⟩:=h;unfold idx at hi;split at hi
  · rename_i h0
    have hlt:i.toNat < xs.length:=by
      rcases bi i.toNat xs.length with h | h
      · exact h
      · rw [List.getElem?_eq_none h] at hi; cases hi
    obtain ⟨b,off,l,rfl,_,_⟩:=h4 _ _ hi;obtain ⟨ti,hti,hsz⟩:=Option.map_eq_some_iff.1 hE;have hlt':i < xs.length:=by omega
    simp [Instr.indexAt,asIntOf,aH hT,h0,hlt',sizeOf,typeInfo,hti,hsz,sb,so,bH]
  · cases hi
theorem iu {v:Value} {xs:List α} {T E ty:TypeId} (hT:P.underlying T=some (.slice E)) (h:Sl R c v xs) (w:World):
    (Builtin.len_ #[T] ty #[v]).run P w= .ok (.int .i64 (xs.length:Int)) w:=by
  obtain ⟨a,cap,rfl,_⟩:=h;simp [Builtin.len_,aH hT,goInt]
theorem gv {T:TypeId} {b o:Nat} {v:Value} {d:TypeDesc} (hT:P.underlying T=some d) (hd:(match d with | .struct _ | .array _ _=>false | _=>true)=true)
    (h:Im c b o v):(Instr.loadAt T (.pointer (some ⟨b,o,none⟩))).run P c.w= .ok v c.w:=by
  cases d <;> simp_all [Instr.loadAt,Instr.sureAddr,loadVar,isAgg,aH hT,load,Sem.run,h.cell]
theorem d7 (b:Nat) {w:World}:∀(l:List Value) (o i:Nat) (acc:Array Value),(∀j u,l[j]? = some u→w.cell? ⟨b,o+i+j,none⟩=some u)→
    (loadCellsFrom ⟨b,o,none⟩ i l.length acc).run P w= .ok (acc++l.toArray) w:=by
  intro l
  induction l with
  | nil=>intro o i acc h; simp [loadCellsFrom]
  | cons v l ih=>
    intro o i acc h;have h0:=h 0 v rfl;simp only [Nat.add_zero] at h0;simp only [bf,loadCellsFrom,bH,load,fW,Sem.run,h0,Result.andThen];rw [ih o (i+1) (acc.push v) (fun j u hu=>by have:=h (j+1) u hu; rwa [show o+i+(j+1)=o+(i+1)+j by omega] at this)];simp
theorem dP {w:World} {T:TypeId} {b o:Nat} {l:List Value} (hT:(P.underlying T).map (fun d=>match d with | .struct _ | .array _ _=>true | _=>false)=some true) (hs:(P.info? T).map (·.size)=some l.length)
    (h:∀j u,l[j]? = some u→w.cell? ⟨b,o+j,none⟩=some u):(loadVar T ⟨b,o,none⟩).run P w= .ok (.agg l.toArray) w:=by
  obtain ⟨ti,hti,hsz⟩:=Option.map_eq_some_iff.1 hs;obtain ⟨d,hd,hag⟩:=Option.map_eq_some_iff.1 hT;have h1:=d7 (P:=P) (w:=w) b l o 0 #[] (fun j u hu=>h j u hu);have h2:(isAgg T).run P w= .ok true w:=by
    cases d <;> simp_all [isAgg,aH hd]
  rw [←hsz] at h1;simp [loadVar,h2,sizeOf,typeInfo,hti,loadCells,h1,Result.andThen]
theorem gu {T:TypeId} {b o:Nat} {l:List Value} (hT:(P.underlying T).map (fun d=>match d with | .struct _ | .array _ _=>true | _=>false)=some true) (hs:(P.info? T).map (·.size)=some l.length)
    (h:∀j u,l[j]? = some u→Im c b (o+j) u):(Instr.loadAt T (.pointer (some ⟨b,o,none⟩))).run P c.w= .ok (.agg l.toArray) c.w:=by
  simp only [Instr.loadAt,Instr.sureAddr,fW,jh,Result.andThen];exact dP hT hs fun j u hu=>(h j u hu).cell
theorem En.on.cell {e:En} (h:e.on c) {b:Nat} (hb:blk e.v=some b) (j:Nat):c.w.cell? ⟨b,j,none⟩=e.vs[j]? :=by
  simp [World.cell?,(h b hb).1]
theorem jY {T:TypeId} {e:En} {b j:Nat} {v:Value} {d:TypeDesc} (hT:P.underlying T=some d) (hd:(match d with | .struct _ | .array _ _=>false | _=>true)=true)
    (h:e.on c) (hb:blk e.v=some b) (hj:e.vs[j]? = some v):(Instr.loadAt T (.pointer (some ⟨b,j,none⟩))).run P c.w= .ok v c.w:=by
  have hc:c.w.cell? ⟨b,j,none⟩=some v:=by rw [h.cell hb,hj]
  cases d <;> simp_all [Instr.loadAt,Instr.sureAddr,loadVar,isAgg,aH hT,load,Sem.run]
theorem jA {T:TypeId} {e:En} {b j:Nat} {l:List Value} (hT:(P.underlying T).map (fun d=>match d with | .struct _ | .array _ _=>true | _=>false)=some true) (hs:(P.info? T).map (·.size)=some l.length)
    (h:e.on c) (hb:blk e.v=some b) (hl:(e.vs.drop j).take l.length=l):(Instr.loadAt T (.pointer (some ⟨b,j,none⟩))).run P c.w= .ok (.agg l.toArray) c.w:=by
  simp only [Instr.loadAt,Instr.sureAddr,fW,jh,Result.andThen];refine dP hT hs fun i u hu=>?_;have:(e.vs.drop j)[i]? = some u:=by
    rw [←hl,aV] at hu;split at hu
    · exact hu
    · cases hu
  rw [fw] at this;rw [h.cell hb,this]
def de:List Value→Prop
  | []=>True
  | u :: l=>u.oneCell'=true∧de l
theorem de.mem:∀{l:List Value},de l→∀u∈l,u.oneCell'=true
  | [],_,u,hu=>by cases hu
  | a :: l,h,u,hu=>by
    rcases List.mem_cons.1 hu with rfl | hu
    · exact h.1
    · exact h.2.mem u hu
theorem frozen?_row {w w':World} {b:Nat} {l m:Array Value} {T:TypeId} (h:w.heap[b]? = some (.cells l T (0,0))) (h':w'.heap[b]? = some (.cells m T (0,0))) (ho:∀k,k≠b→w'.heap[k]? = w.heap[k]?) (a:Addr):w'.frozen? a=w.frozen? a:=by
  by_cases hk:a.block=b
  · simp [World.frozen?,hk,h,h']
  · simp [World.frozen?,ho _ hk]
theorem Cx.row {b:Nat} {l m:List Value} {T:TypeId} (h:c.w.heap[b]? = some (.cells l.toArray T (0,0))) (lim:Nat) (hA:∀o,c.A b o↔lim≤o) (hs:∀o,o < lim→m[o]? = l[o]?) (lim':Nat) (hl:lim≤lim'):
    ∃c':Cx,c'.w=c.w.setRow b m.toArray∧c.but (fun k=>k=b) c'∧c'.w.heap[b]? = some (.cells m.toArray T (0,0))∧∀o,c'.A b o↔lim'≤o:=by
  have hbk:=setRow_heap c.w b l.toArray m.toArray T (0,0) h;have hoth:∀k,k≠b→(c.w.setRow b m.toArray).heap[k]? = c.w.heap[k]? :=fun k hk=>setRow_other c.w b k _ hk;have hsz:(c.w.setRow b m.toArray).heap.size=c.w.heap.size:=by simp [World.setRow]
  refine ⟨⟨c.w.setRow b m.toArray,fun k o=>(k≠b∧c.A k o)∨(k=b∧lim'≤o),c.t⟩,rfl,⟨⟨rfl,rfl,by rw [hsz]; exact ak _,fun k o hk hnA=>?_,fun k hk hnA=>?_,fun a _ _=>frozen?_row h hbk hoth a,fun _ _ _ h=>h⟩,rfl,fun k hk hkb=>⟨hoth k hkb,fun o=>?_⟩⟩,hbk,fun o=>?_⟩
  · by_cases hkb:k=b
    · subst hkb
      have ho:o < lim:=by
        rcases bi o lim with h | h
        · exact h
        · exact absurd ((hA o).2 h) hnA
      refine ⟨?_,?_⟩
      · rw [cell_setRow_same c.w k o l.toArray _ T (0,0) h,dU c.w k o l.toArray T (0,0) h,aK,aK,hs o ho]
      · rintro (h | h)
        · exact h.1 rfl
        · omega
    · refine ⟨cq (w:=c.w) (a:=⟨k,o,none⟩) (hoth k hkb),?_⟩
      rintro (h | h)
      · exact hnA h.2
      · exact hkb h.1
  · by_cases hkb:k=b
    · subst hkb
      exact absurd ((hA lim).2 (ak _)) (hnA lim)
    · exact hoth k hkb
  · simp [hkb]
  · simp
theorem stE {T:TypeId} {e:En} {b o:Nat} {us:List Value} {v:Value} (h:e.on c) (hb:blk e.v=some b) (hlim:e.lim=0) (hv:v.cells.toList=us) (hs:(P.info? T).map (·.size)=some us.length) (h1:de us)
    (hl:o+us.length≤e.vs.length):∃c',(Instr.storeAt T (.pointer (some ⟨b,o,none⟩)) v).run P c.w= .ok () c'.w∧c.but (fun k=>k=b) c'∧(⟨e.v,e.T,e.vs.take o++us++e.vs.drop (o+us.length),0⟩:En).on c':=by
  obtain ⟨ti,hti,hsz⟩:=Option.map_eq_some_iff.1 hs;have hh:=h b hb;have h2:=run_storeCells_at P b o e.T us 0 e.vs.toArray c.w hh.1 (by simpa using hl) h1.mem;have hz:v.cells.size=us.length:=by rw [←hv]; simp
  simp only [Nat.add_zero] at h2;obtain ⟨c',e1,e2,e3,e4⟩:=Cx.row (m:=e.vs.take o++us++e.vs.drop (o+us.length)) hh.1 e.lim hh.2 (fun o ho=>by omega) 0 (by omega);refine ⟨c',?_,e2,fun b' hb'=>?_⟩
  · rw [e1]
    simp [Instr.storeAt,Instr.sureAddr,storeVar,sizeOf,typeInfo,hti,hsz,hz,hv,h2,Result.andThen]
  · simp only at hb'
    rw [hb] at hb';cases hb';exact ⟨e3,e4⟩
variable {ρ:Operand→Value} {o:Oper}
theorem Own.st {T:TypeId} {e:En} {b j:Nat} {us nw:List Value} {v:Value} (k:Nat) (O:Own c G F) (hx:execOp ρ o=(do Instr.storeAt T (.pointer (some ⟨b,j,none⟩)) v; pure Next.skip:Sem Next)) (hk:F[k]? = some e) (hb:blk e.v=some b) (hlim:e.lim=0)
    (hv:v.cells.toList=us) (hs:(P.info? T).map (·.size)=some us.length) (h1:de us) (hl:Nat.ble (j+us.length) e.vs.length=true) (hn:e.vs.take j++us++e.vs.drop (j+us.length)=nw):
    ∃c',(execOp ρ o).run P c.w= .ok .skip c'.w∧c.le c'∧Own c' G (F.set k ⟨e.v,e.T,nw,0⟩):=by
  subst hn;obtain ⟨c',h1,h2,h3⟩:=stE (O.on k hk) hb hlim hv hs h1 (ai hl);exact ⟨c',by rw [hx]; exact rs h1,h2.le,O.set k hk h2 (fun b' hb'=>by rw [hb,hb']) h3 (fun b h=> .inl h)⟩
theorem Own.stG {T:TypeId} {e:En} {b j:Nat} {us nw:List Value} {v:Value} {g k:Nat} {E:List En} (r:Nat) (O:Own c G F) (hx:execOp ρ o=(do Instr.storeAt T (.pointer (some ⟨b,j,none⟩)) v; pure Next.skip:Sem Next)) (hE:G g k=E) (hr:E[r]? = some e) (hb:blk e.v=some b) (hlim:e.lim=0)
    (hv:v.cells.toList=us) (hs:(P.info? T).map (·.size)=some us.length) (h1:de us) (hl:Nat.ble (j+us.length) e.vs.length=true) (hn:e.vs.take j++us++e.vs.drop (j+us.length)=nw):
    ∃c',(execOp ρ o).run P c.w= .ok .skip c'.w∧c.le c'∧Own c' (ca G g k (E.set r ⟨e.v,e.T,nw,0⟩)) F:=by
  subst hn;obtain ⟨c',h1,h2,h3⟩:=stE (O.gon hE r hr) hb hlim hv hs h1 (ai hl);exact ⟨c',by rw [hx]; exact rs h1,h2.le,O.setR r hE hr h2 (fun b' hb'=>by rw [hb,hb']) h3 (fun b h=> .inl h)⟩
theorem Cx.new (c:Cx) (vs:List Value) (T:TypeId) (lim:Nat):∃c':Cx,c'.w=c.w.alloc (.cells vs.toArray T)∧c.but (fun _=>False) c'∧c'.w.heap[c.w.heap.size]? = some (.cells vs.toArray T (0,0))∧c.w.heap.size < c'.w.heap.size∧∀o,c'.A c.w.heap.size o↔lim≤o:=
  ⟨⟨c.w.alloc (.cells vs.toArray T),fun k p=>(k < c.w.heap.size∧c.A k p)∨(k=c.w.heap.size∧lim≤p),c.t⟩,rfl,
   ⟨⟨rfl,rfl,by simp,fun k p hk hA=>⟨cq (w:=c.w) (a:=⟨k,p,none⟩) (bq _ _ _ hk),by rintro (h | h); exact hA h.2; omega⟩,fun k hk _=>bq _ _ _ hk,fun a _ _=>RowKit.frozen?_alloc_cells _ _ _ _,fun _ _ _ h=>h⟩,rfl,
    fun k hk _=>⟨bq _ _ _ hk,fun p=>⟨by rintro (h | h); exact h.2; omega,fun h=> .inl ⟨hk,h⟩⟩⟩⟩,heap_alloc_new c.w _,by simp,fun o=>by simp⟩
theorem Own.al {T:TypeId} {vs:List Value} (O:Own c G F) (hr:(execOp ρ o).run P c.w= .ok (.value (.pointer (some ⟨c.w.heap.size,0,none⟩))) (c.w.alloc (.cells vs.toArray T))):
    ∃v c',(execOp ρ o).run P c.w= .ok (.value v) c'.w∧c.le c'∧∃b,v= .pointer (some ⟨b,0,none⟩)∧Own c' G (⟨.pointer (some ⟨b,0,none⟩),T,vs,0⟩ :: F):=by
  obtain ⟨c',h1,h2,h3,_,h4⟩:=Cx.new c vs T 0;refine ⟨_,c',by rw [h1]; exact hr,h2.le,_,rfl,O.cons h2 (fun _=>id) (fun b hb=>?_) (fun b hb=>?_)⟩
  · simp only [blk,aL] at hb; subst hb; exact ⟨h3,h4⟩
  · simp only [blk,aL] at hb; omega
theorem Own.bx {T:TypeId} {vs:List Value} (O:Own c G F) (hr:(execOp ρ o).run P c.w= .ok (.value (.pointer (some ⟨c.w.heap.size,0,none⟩))) (c.w.alloc (.cells vs.toArray T))):
    ∃v c',(execOp ρ o).run P c.w= .ok (.value v) c'.w∧c.le c'∧∃b,v= .pointer (some ⟨b,0,none⟩)∧Own c' G F∧∀j u,vs[j]? = some u→Im c' b (0+j) u:=by
  obtain ⟨c',h1,h2,h3,h5,h4⟩:=Cx.new c vs T vs.length;refine ⟨_,c',by rw [h1]; exact hr,h2.le,_,rfl,O.keep h2,fun j u hu=>⟨h5,fun hA=>?_,?_⟩⟩
  · have h6:=(h4 _).1 hA
    have:=(List.getElem?_eq_some_iff.1 hu).1;omega
  · rw [dU _ _ _ _ _ _ h3,aK,bV,hu]
def AR (R:Rp α) (c:Cx) (vs:List Value) (xs:List α):Prop:=∀i x,xs[i]? = some x→R.cells c ((vs.drop (i * R.size)).take R.size) x
def OA (R:Rp α) (c:Cx) (v:Value) (vs:List Value) (xs:List α):Prop:=
  0 < R.size∧((v= .slice none 0 0∧xs= [])∨∃g cap,v= .slice (some ⟨g,0,none⟩) xs.length cap∧xs.length≤cap∧cap≤maxLen∧cap * R.size≤vs.length)∧AR R c vs xs
def es (m:Bool) (R:Rp α) (v:Value) (E:TypeId) (vs:List Value) (xs:List α):En:=⟨v,E,vs,cond m 0 (xs.length * R.size)⟩
theorem AR.lw {vs:List Value} {xs:List α} (h:AR R c vs xs) (k:c.lw c'):AR R c' vs xs:=fun i x hx=>R.mono k (h i x hx)
theorem AR.mono {vs:List Value} {xs:List α} (h:AR R c vs xs) (k:c.le c'):AR R c' vs xs:=h.lw k.lw
theorem OA.lw {v:Value} {vs:List Value} {xs:List α} (h:OA R c v vs xs) (k:c.lw c'):OA R c' v vs xs:=⟨h.1,h.2.1,h.2.2.lw k⟩
theorem OA.mono {v:Value} {vs:List Value} {xs:List α} (h:OA R c v vs xs) (k:c.le c'):OA R c' v vs xs:=h.lw k.lw
theorem OA.nil (h0:0 < R.size):OA R c (.slice none 0 0) [] []:=⟨h0,.inl ⟨rfl,rfl⟩,fun i x h=>by simp at h⟩
theorem OA.one {v:Value} {vs:List Value} {xs:List α} (h:OA R c v vs xs):v.oneCell'=true:=by
  rcases h.2.1 with ⟨rfl,_⟩ | ⟨g,cap,rfl,_⟩ <;> rfl
theorem gX {v:Value} {vs:List Value} {xs:List α} {T E ty:TypeId} (hT:P.underlying T=some (.slice E)) (h:OA R c v vs xs) (w:World):
    (Builtin.len_ #[T] ty #[v]).run P w= .ok (.int .i64 (xs.length:Int)) w:=by
  rcases h.2.1 with ⟨rfl,rfl⟩ | ⟨g,cap,rfl,_⟩ <;> simp [Builtin.len_,aH hT,goInt]
theorem bM {β:Type} {a b:List β} {i s:Nat} (h:i+s≤a.length):((a++b).drop i).take s=(a.drop i).take s:=by
  rw [gr (by omega),du (by rw [be]; omega)]
theorem dj {i k s:Nat} (h:i < k):i * s+s≤k * s:=by
  have:=dt s (show i+1≤k by omega);rw [bu,eQ] at this;exact this
theorem AR.len {vs:List Value} {xs:List α} (h:AR R c vs xs) (hp:0 < R.size):xs.length * R.size≤vs.length:=by
  rcases cM xs.length with h0 | h0
  · rw [h0,fX]; exact dr _
  · have hx:xs[xs.length - 1]? = some xs[xs.length - 1]:=aj (by omega)
    have:=R.len (h _ _ hx);rw [aw,be] at this;have e:xs.length * R.size=(xs.length - 1) * R.size+R.size:=by
      conv=>lhs; rw [show xs.length=xs.length - 1+1 by omega,bu,eQ]
    omega
theorem OA.sl {v:Value} {E:TypeId} {vs:List Value} {xs:List α} (h:OA R c v vs xs) (hon:(es false R v E vs xs).on c):Sl R c v xs:=by
  obtain ⟨hp,h1,h2⟩:=h;rcases h1 with ⟨rfl,rfl⟩ | ⟨g,cap,rfl,hc,hm,hcs⟩
  · exact Sl.nl R c
  · obtain ⟨h3,h4⟩:=hon g rfl
    refine ⟨_,cap,rfl,hc,hm,fun i x hx=>⟨g,0,_,rfl,h2 i x hx,fun j u hu=>?_⟩⟩;have hj:j < R.size∧vs[i * R.size+j]? = some u:=by
      rw [aV] at hu;split at hu
      · rename_i hj
        exact ⟨hj,by rwa [fw] at hu⟩
      · cases hu
    have hi:=dj (s:=R.size) (List.getElem?_eq_some_iff.1 hx).1;refine ⟨(Array.getElem?_eq_some_iff.1 h3).1,fun hA=>?_,?_⟩
    · have:=(h4 _).1 hA
      simp only [es,j7] at this;omega
    · rw [dU _ _ _ _ _ _ h3,aK,bV]
      exact hj.2
theorem Own.frz {v:Value} {E:TypeId} {vs:List Value} {xs:List α} (k:Nat) (O:Own c G F) (hk:F[k]? = some (es true R v E vs xs)) (h:OA R c v vs xs):
    ∃c',c'.w=c.w∧c.le c'∧Own c' G (F.set k (es false R v E vs xs))∧Sl R c' v xs:=by
  have hon:=O.on k hk
  let c':Cx:=⟨c.w,fun b o=>c.A b o∧¬(blk v=some b∧o < xs.length * R.size),c.t⟩
  have hle:c.le c':=⟨rfl,rfl,ak _,fun _ _ _ h=>⟨rfl,fun h2=>h h2.1⟩,fun _ _ _=>rfl,fun _ _ _=>rfl,fun _ _ _ h=>h⟩;have hb:c.but (fun b=>blk v=some b) c':=⟨hle,rfl,fun b hb hd=>⟨rfl,fun o=>⟨fun h=>h.1,fun h=>⟨h,fun h2=>hd h2.1⟩⟩⟩⟩;have hon':(es false R v E vs xs).on c':=fun b hb=>by
    obtain ⟨h1,h2⟩:=hon b hb;refine ⟨h1,fun o=>?_⟩;have hb':blk v=some b:=hb;simp only [c',hb',true_and,es,j7];rw [h2 o];simp [es]
  exact ⟨c',rfl,hle,O.set k hk hb (fun b h=>h) hon' (fun b h=> .inl h),(h.mono hle).sl hon'⟩
theorem Own.slf {v:Value} {E:TypeId} {vs:List Value} {xs:List α} (k:Nat) (O:Own c G F) (hk:F[k]? = some (es false R v E vs xs)) (h:OA R c v vs xs):Sl R c v xs:=h.sl (O.on k hk)
theorem Sl.flat {u:Value} {ys:List α} (h:Sl R c u ys):∃nw:List Value,nw.length=ys.length * R.size∧(∀j w,nw[j]? = some w→Im c (sb u) (so u+j) w)∧(∀w∈nw,w.oneCell'=true)∧
    (∀i x,ys[i]? = some x→R.cells c ((nw.drop (i * R.size)).take R.size) x):=by
  suffices ∀k,k≤ys.length→∃nw:List Value,nw.length=k * R.size∧(∀j w,nw[j]? = some w→Im c (sb u) (so u+j) w)∧(∀w∈nw,w.oneCell'=true)∧
      (∀i x,i < k→ys[i]? = some x→R.cells c ((nw.drop (i * R.size)).take R.size) x) by
    obtain ⟨nw,h1,h2,h3,h4⟩:=this ys.length (ak _);exact ⟨nw,h1,h2,h3,fun i x hx=>h4 i x (List.getElem?_eq_some_iff.1 hx).1 hx⟩
  intro k
  induction k with
  | zero=>exact fun _=>⟨[],by simp,by simp,by simp,fun i x hi=>by omega⟩
  | succ k ih=>
    intro hk;obtain ⟨nw,h1,h2,h3,h4⟩:=ih (by omega);have hx:ys[k]? = some ys[k]:=aj (by omega);obtain ⟨l,hl,hc⟩:=h.at hx;have hll:=R.len hl;refine ⟨nw++l,by rw [aA,h1,hll,bu,eQ],fun j w hw=>?_,fun w hw=>?_,fun i x hi hxi=>?_⟩
    · rcases bi j nw.length with hj | hj
      · rw [ah hj] at hw
        exact h2 j w hw
      · rw [aq hj] at hw
        have:=hc _ _ hw;rw [h1] at this
        rwa [show so u+k * R.size+(j - k * R.size)=so u+j by omega] at this
    · rcases List.mem_append.1 hw with hw | hw
      · exact h3 w hw
      · exact R.one hl w hw
    · rcases bi i k with hik | hik
      · rw [bM (by rw [h1]; exact dj hik)]
        exact h4 i x hik hxi
      · obtain rfl:i=k:=by omega
        rw [hx] at hxi;cases hxi;rw [←h1,eW,jj (by omega)];exact hl
theorem eq (z:Array Value) (n:Nat):(Builtin.zeroCells z n).size=n * z.size:=by simp [Builtin.zeroCells]
theorem eN {E t ty:TypeId} {v:Value} {vs:List Value} {xs ys zs:List α} {z:Value} {by_:Nat} {m:Bool} {ua:Option Addr} {ucap:Nat} {nw:List Value} (k:Nat) (O:Own c G F) (hk:F[k]? = some (es m R v E vs xs)) (h:OA R c v vs xs)
    (n1:nw.length=ys.length * R.size) (n2:ys≠ []→∃ub uo,ua=some ⟨ub,uo,none⟩∧∀j w,nw[j]? = some w→c.w.cell? ⟨ub,uo+j,none⟩=some w) (n3:∀w∈nw,w.oneCell'=true) (n4:∀i x,ys[i]? = some x→R.cells c ((nw.drop (i * R.size)).take R.size) x) (happ:app xs ys=some zs)
    (hT:P.underlying t=some (.slice E)) (hi:(P.info? E).map (fun i=>(i.zero,i.size,i.bytes))=some (some z,R.size,by_)) (hz:z.cells.size=R.size) (hby:Nat.ble by_ 128=true):
    ∃v' c',(Builtin.append_ #[t,t] ty #[v,.slice ua ys.length ucap]).run P c.w= .ok v' c'.w∧c.le c'∧∃vs',Own c' G (F.set k (es m R v' E vs' zs))∧OA R c' v' vs' zs:=by
  have hby:=ai hby;have hfar:xs.length+ys.length≤far∧xs++ys=zs:=by
    unfold app at happ;split at happ
    · exact ⟨by assumption,by simpa using happ⟩
    · cases happ
  obtain ⟨hfar,rfl⟩:=hfar;unfold far at hfar;obtain ⟨ti,hti,hzz⟩:=Option.map_eq_some_iff.1 hi;simp only [iN] at hzz;obtain ⟨hz1,hz2,hz3⟩:=hzz;have hon:=O.on k hk;have hklt:=(List.getElem?_eq_some_iff.1 hk).1;have hh:=h;obtain ⟨hp,h1,h2⟩:=h;by_cases hys:ys= []
  · subst hys
    refine ⟨v,c,?_,Cx.le.refl c,vs,?_,by rw [ep]; exact hh⟩
    · rcases h1 with ⟨rfl,rfl⟩ | ⟨g,cap,rfl,hcap,_⟩
      · cases ua <;> simp [Builtin.append_,aH hT,sizeOf,typeInfo,hti,Builtin.lenOf,Builtin.firstCells,loadCells,loadCellsFrom,storeCells]
      · cases ua <;> simp [Builtin.append_,aH hT,sizeOf,typeInfo,hti,Builtin.lenOf,Builtin.firstCells,loadCells,loadCellsFrom,storeCells,hcap]
    · rw [ep]
      have:F.set k (es m R v E vs xs)=F:=by
        apply km;intro j;by_cases hj:k=j
        · subst hj; rw [a6 hklt,hk]
        · rw [bj hj]
      rw [this]; exact O
  · have hpos:0 < ys.length:=by
      rcases cM ys.length with h | h
      · exact absurd (bk h) hys
      · exact h
    obtain ⟨ub,uo,hua,n5⟩:=n2 hys;subst hua;have hcells:∀j w,nw[j]? = some w→c.w.cell? ((⟨ub,uo,none⟩:Addr).add j)=some w:=fun j w hw=>by
      rw [bH];exact n5 j w hw
    have hN:(xs++ys).length=xs.length+ys.length:=aA;have hxl:=h2.len hp;have helem:∀(c':Cx) (tail:List Value),c.le c'→AR R c' (vs.take (xs.length * R.size)++nw++tail) (xs++ys):=fun c' tail hcc i x hx=>by
      have hlt:(vs.take (xs.length * R.size)).length=xs.length * R.size:=by rw [aw]; omega
      rcases bi i xs.length with hi' | hi'
      · have hm:=dj (s:=R.size) hi'
        rw [a7,bM (by rw [hlt]; exact hm)];rw [ah hi'] at hx;have:=h2 i x hx;rw [eV,eR,show min R.size (xs.length * R.size - i * R.size)=R.size by omega];exact R.mono hcc this
      · rw [aq hi'] at hx
        have h4:=n4 _ _ hx;have hiy:=dj (s:=R.size) (List.getElem?_eq_some_iff.1 hx).1;have e:i * R.size=xs.length * R.size+(i - xs.length) * R.size:=by rw [←bu]; congr 1; omega
        have e2:(vs.take (xs.length * R.size)++(nw++tail)).drop (xs.length * R.size)=nw++tail:=by
          conv=>lhs; arg 1; rw [←hlt]
          exact eW
        rw [a7,e,←dM,e2,bM (by rw [n1]; omega)];exact R.mono hcc h4
    have hbytes:(xs.length+ys.length) * ti.bytes≤140737488355328:=by
      rw [hz3];exact cV (Nat.mul_le_mul hfar hby) (by decide)
    have fresh:∀old,old < xs.length+ys.length→
        ∃v' c',Result.ok (α:=Value) (.slice (some ⟨c.w.heap.size,0,none⟩) (xs.length+ys.length) (grownCap c.w (xs.length+ys.length) old E)) (c.w.drew.alloc (.cells ((vs.take (xs.length * R.size)).toArray++nw.toArray++Builtin.zeroCells z.cells (grownCap c.w (xs.length+ys.length) old E - (xs.length+ys.length))) E))= .ok v' c'.w∧c.le c'∧
        ∃vs',Own c' G (F.set k (es m R v' E vs' (xs++ys)))∧OA R c' v' vs' (xs++ys):=by
      intro old ho;have hge:=grownCap_ge c.w (xs.length+ys.length) old E;have hcm:grownCap c.w (xs.length+ys.length) old E≤maxLen:=jZ c.w _ old E (by unfold maxLen; omega);have hd:=Cx.drew_le c;obtain ⟨c',e1,e2,e3,e4,e5⟩:=Cx.new ⟨c.w.drew,c.A,c.t⟩ ((vs.take (xs.length * R.size))++nw++(Builtin.zeroCells z.cells (grownCap c.w (xs.length+ys.length) old E - (xs.length+ys.length))).toList) E (cond m 0 ((xs++ys).length * R.size));have ea:((vs.take (xs.length * R.size))++nw++(Builtin.zeroCells z.cells (grownCap c.w (xs.length+ys.length) old E - (xs.length+ys.length))).toList).toArray=(vs.take (xs.length * R.size)).toArray++nw.toArray++Builtin.zeroCells z.cells (grownCap c.w (xs.length+ys.length) old E - (xs.length+ys.length)):=by
        apply kh; simp
      refine ⟨.slice (some ⟨c.w.heap.size,0,none⟩) (xs.length+ys.length) (grownCap c.w (xs.length+ys.length) old E),c',by rw [e1,ea],hd.le.trans e2.le,(vs.take (xs.length * R.size))++nw++(Builtin.zeroCells z.cells (grownCap c.w (xs.length+ys.length) old E - (xs.length+ys.length))).toList,Own.set (O.keep hd) k hk e2 (fun b (h:False)=>h.elim) (fun b hb=>?_) (fun b hb=>?_),hp,.inr ⟨c.w.heap.size,_,by rw [hN],by rw [hN]; exact hge,hcm,?_⟩,?_⟩
      · simp only [es,blk,aL] at hb; subst hb; exact ⟨e3,e5⟩
      · simp only [es,blk,aL] at hb; subst hb; exact .inr (ak _)
      · simp only [aA,Array.length_toList,eq,hz,n1,aw]
        have:grownCap c.w (xs.length+ys.length) old E * R.size=xs.length * R.size+ys.length * R.size+(grownCap c.w (xs.length+ys.length) old E - (xs.length+ys.length)) * R.size:=by
          rw [←bu,←bu]; congr 1; omega
        rw [this,Nat.min_eq_left hxl];exact ak _
      · exact helem c' _ (hd.le.trans e2.le)
    rcases h1 with ⟨rfl,rfl⟩ | ⟨g,cap,rfl,hnc,hcm,hcs⟩
    · have hr:=run_append_nil (P:=P) c.w t ty E ti z hT hti hz1 ⟨ub,uo,none⟩ ys.length ucap nw (by rw [n1,hz2]) hcells hpos (by simp at hfar; omega) (by have:=hbytes; simp at this; omega)
      have:=fresh 0 (by simpa using hpos);simp only [aS,bV,fX,ig,ki,cL] at this hr⊢;rw [hr];simpa using this
    · obtain ⟨hg,hA⟩:=hon g rfl
      by_cases hroom:xs.length+ys.length≤cap
      · have hfit:xs.length * R.size+nw.length≤vs.length:=by
          rw [n1,←bu];exact cV (dt _ hroom) hcs
        have hr:=kp (P:=P) c.w t ty E ti hT hti g xs.length cap vs.toArray hg ⟨ub,uo,none⟩ ys.length ucap nw (by rw [n1,hz2]) hcells n3 hroom (by rw [hz2]; simpa using hfit);rw [hz2] at hr;simp only at hr;obtain ⟨c',e1,e2,e3,e4⟩:=Cx.row (m:=vs.take (xs.length * R.size)++nw++vs.drop (xs.length * R.size+nw.length)) hg _ hA (fun o ho=>by
          have ho:o < xs.length * R.size:=by
            cases m
            · exact ho
            · exact absurd ho (ku _)
          rw [a7,ah (by rw [aw]; omega),aV,ac ho];rfl) (cond m 0 ((xs++ys).length * R.size)) (by
            cases m
            · simp only [es,j7]; exact dt _ (by rw [hN]; omega)
            · exact ak _)
        refine ⟨.slice (some ⟨g,0,none⟩) (xs.length+ys.length) cap,c',by rw [hr,e1],e2.le,vs.take (xs.length * R.size)++nw++vs.drop (xs.length * R.size+nw.length),Own.set O k hk e2 (fun b h=>by subst h; rfl) (fun b hb=>?_) (fun b hb=> .inl hb),hp,.inr ⟨g,cap,by rw [hN],by rw [hN]; exact hroom,hcm,?_⟩,helem c' _ e2.le⟩
        · simp only [es,blk,aL] at hb; subst hb; exact ⟨e3,e4⟩
        · simp only [aA,be,aw]
          omega
      · have eK:∀j w,(vs.take (xs.length * R.size))[j]? = some w→c.w.cell? ((⟨g,0,none⟩:Addr).add j)=some w:=fun j w hw=>by
          rw [bH,bV,dU _ _ _ _ _ _ hg,aK];rw [aV] at hw;split at hw
          · exact hw
          · cases hw
        have hr:=kr (P:=P) c.w t ty E ti z hT hti hz1 ⟨g,0,none⟩ xs.length cap (vs.take (xs.length * R.size)) (by rw [aw,hz2]; omega) eK ⟨ub,uo,none⟩ ys.length ucap nw (by rw [n1,hz2]) hcells (by omega) (by omega) (growslice_fits (by omega) hbytes);rw [hr];exact fresh cap (by omega)
theorem gN {E t ty:TypeId} {v u:Value} {vs:List Value} {xs ys zs:List α} {z:Value} {by_:Nat} {m:Bool} (k:Nat) (O:Own c G F) (hk:F[k]? = some (es m R v E vs xs)) (h:OA R c v vs xs) (hS:Sl R c u ys) (happ:app xs ys=some zs)
    (hT:P.underlying t=some (.slice E)) (hi:(P.info? E).map (fun i=>(i.zero,i.size,i.bytes))=some (some z,R.size,by_)) (hz:z.cells.size=R.size) (hby:Nat.ble by_ 128=true):
    ∃v' c',(Builtin.append_ #[t,t] ty #[v,u]).run P c.w= .ok v' c'.w∧c.le c'∧∃vs',Own c' G (F.set k (es m R v' E vs' zs))∧OA R c' v' vs' zs:=by
  obtain ⟨nw,n1,n2,n3,n4⟩:=hS.flat;obtain ⟨ua,ucap,rfl,hu1,hu2,hu3⟩:=hS;refine eN k O hk h n1 (fun hys=>?_) n3 n4 happ hT hi hz hby;have hpos:0 < ys.length:=by
    rcases cM ys.length with h | h
    · exact absurd (bk h) hys
    · exact h
  obtain ⟨ub,uo,_,hua,_⟩:=hu3 0 ys[0] (aj hpos);subst hua;exact ⟨ub,uo,rfl,fun j w hw=>(n2 j w hw).cell⟩
end
end Go.Lt
namespace Go.Lt
section
variable {P:Program} {c c':Cx} {G:Gm} {F:List En} {α:Type} {R:Rp α} {ρ:Operand→Value} {o:Oper}
variable {n:Fr} {ops:Array Oper} {Q:Exit→(Nat→Value)→World→Prop} {rest:List Oper} {e:Nat→Value} {D:List Nat} {K:Cx→Prop} {l:List Oper} {fuel:Nat} {li:List Bool}
theorem WL.mem {X:Value→Cx→Prop} (hg:o.guard=none) (hr:∃v c',(execOp (ev n e) o).run P c.w= .ok (.value v) c'.w∧c.le c'∧X v c')
  (h:∀v c',c.le c'→X v c'→WL P ops n Q rest (upO e o.dst v) c'.w):WL P ops n Q (o :: rest) e c.w:=by
 obtain ⟨v,c',h1,h2,h3⟩:=hr;exact WL.val hg h1 (h v c' h2 h3)
theorem WL.memD {X:Cx→Prop} (hg:o.guard=none) (hr:∃c',(execOp (ev n e) o).run P c.w= .ok .skip c'.w∧c.le c'∧X c')
  (h:∀c',c.le c'→X c'→WL P ops n Q rest (upO e o.dst undef) c'.w):WL P ops n Q (o :: rest) e c.w:=by
 obtain ⟨c',h1,h2,h3⟩:=hr;exact WL.do_ hg h1 (h c' h2 h3)
theorem Go1.mem (i:Nat) {X:Value→Cx→Prop} (hi:l.toArray[i]? = some o) (hsl:a8 n l=true) (hw:bv l.toArray n e o=true) (hr:∃v c',(execOp (ev n e) o).run P c.w= .ok (.value v) c'.w∧c.le c'∧X v c')
  (h:∀v c',c.le c'→X v c'→(D.contains i=true∨K c')∧AC D K P l n Q fuel (li.set i true) (upO e o.dst v) c'):Go1 D K P l n Q fuel li e c i:=by
 obtain ⟨v,c',h1,h2,h3⟩:=hr;have:=h v c' h2 h3;exact Go1.val hi hsl hw h1 h2 this.1 this.2
theorem Go1.memD (i:Nat) {X:Cx→Prop} (hi:l.toArray[i]? = some o) (hsl:a8 n l=true) (hw:bv l.toArray n e o=true) (hr:∃c',(execOp (ev n e) o).run P c.w= .ok .skip c'.w∧c.le c'∧X c')
  (h:∀c',c.le c'→X c'→(D.contains i=true∨K c')∧AC D K P l n Q fuel (li.set i true) (upO e o.dst undef) c'):Go1 D K P l n Q fuel li e c i:=by
 obtain ⟨c',h1,h2,h3⟩:=hr;have:=h c' h2 h3;exact Go1.do_ hi hsl hw h1 h2 this.1 this.2
theorem Go1.callP (i:Nat) {f:FuncId} {args:Array Value} {X:Cx→Value→Prop} (hi:l.toArray[i]? = some o) (hsl:a8 n l=true) (hw:bv l.toArray n e o=true)
  (hrun:(execOp (ev n e) o).run P c.w= .ok (.enter f args) c.w) (hc:Calls P f args c.w (aR c X))
  (h:∀v c',c.le c'→X c' v→(D.contains i=true∨K c')∧AC D K P l n Q fuel (li.set i true) (upO e o.dst v) c'):Go1 D K P l n Q fuel li e c i:=Go1.call hi hsl hw hrun hc h
theorem AC.one (i:Nat) (hr:Region.ready .any l.toArray li.toArray= [i]) (h:Go1 D K P l n Q fuel li e c i):AC D K P l n Q (fuel+1) li e c:=AC.many [i] (by simp) hr ⟨h,trivial⟩
theorem Sl.form {v:Value} {xs:List α} (h:Sl R c v xs):∃a n k,v= .slice a n k:=by
 obtain ⟨a,cap,h,_⟩:=h; exact ⟨_,_,_,h⟩
theorem OA.form {v:Value} {vs:List Value} {xs:List α} (h:OA R c v vs xs):∃a n k,v= .slice a n k:=by
 rcases h.2.1 with ⟨h,_⟩ | ⟨g,cap,h,_⟩ <;> exact ⟨_,_,_,h⟩
theorem va (v:Value) {w:World} (h:WL P ops n Q rest (upO e o.dst v) w) (hg:o.guard=none:=by exact rfl) (hr:(execOp (ev n e) o).run P w= .ok (.value v) w:=by kernel_rfl):WL P ops n Q (o :: rest) e w:=WL.val0 hg hr h
theorem vb {t b:Bool} {w:World} (ht:t=b) (h:WL P ops n Q rest (upO e o.dst (.bool b)) w) (hg:o.guard=none:=by exact rfl) (hr:(execOp (ev n e) o).run P w= .ok (.value (.bool t)) w:=by kernel_rfl):WL P ops n Q (o :: rest) e w:=WL.valb0 ht hg hr h
theorem ps {l:List Oper} {w:World} (h:WL P l.toArray n Q rest (upO e o.dst undef) w) (hs:a8 n l=true:=by kernel_rfl) (hw:bv l.toArray n e o=false:=by kernel_rfl):WL P l.toArray n Q (o :: rest) e w:=WL.pass hs hw h
theorem wn {l:List Oper} {w:World} (h:WL P l.toArray n Q ({ o with guard:=none} :: rest) e w) (hs:a8 n l=true:=by kernel_rfl) (hw:bv l.toArray n e o=true:=by kernel_rfl):WL P l.toArray n Q (o :: rest) e w:=WL.want hs hw h
theorem ta (i:Nat) (v:Value) (h:AC D K P l n Q fuel (li.set i true) (upO e o.dst v) c) (hi:l.toArray[i]? = some o:=by exact rfl) (ht:tk l n li i=true:=by kernel_rfl) (hw:bv l.toArray n e o=true:=by kernel_rfl)
  (hy:∀w,(execOp (ev n e) o).run P w= .ok (.value v) w:=by intro w; kernel_rfl):AC D K P l n Q (fuel+1) li e c:=AC.take i v hi ht hw (fun c' _=>hy c'.w) h
theorem sr {b:Code} {id:Nat} {l:List Oper} {w:World} (h:WL P l.toArray n (dF (W P n b Q) Q) l e w):W P n ((Code.region id l.toArray false).seq b) Q e w:=W.seq (W.region h)
theorem wln {K:(Nat→Value)→World→Prop} {Q:Exit→(Nat→Value)→World→Prop} {w:World} (h:K e w):WL P ops n (dF K Q) [] e w:=WL.nil (nrm h)
theorem vv {o':Oper} (v:Value) {w:World} (h:WL P ops n Q rest (upO (upO e o.dst v) o'.dst v) w) (hg:o.guard=none:=by exact rfl) (hr:(execOp (ev n e) o).run P w= .ok (.value v) w:=by kernel_rfl) (hg':o'.guard=none:=by exact rfl) (hr':(execOp (ev n (upO e o.dst v)) o').run P w= .ok (.value v) w:=by kernel_rfl):WL P ops n Q (o :: o' :: rest) e w:=va v (va v h hg' hr') hg hr
theorem wa {l:List Oper} (v:Value) {w:World} (h:WL P l.toArray n Q rest (upO e o.dst v) w) (hs:a8 n l=true:=by kernel_rfl) (hw:bv l.toArray n e o=true:=by kernel_rfl) (hr:(execOp (ev n e) { o with guard:=none}).run P w= .ok (.value v) w:=by kernel_rfl):WL P l.toArray n Q (o :: rest) e w:=wn (va v h rfl hr) hs hw
theorem pz {l:List Oper} {o':Oper} {w:World} (h:WL P l.toArray n Q rest (upO (upO e o.dst undef) o'.dst undef) w) (hs:a8 n l=true:=by kernel_rfl) (hw:bv l.toArray n e o=false:=by kernel_rfl) (hw':bv l.toArray n (upO e o.dst undef) o'=false:=by kernel_rfl):WL P l.toArray n Q (o :: o' :: rest) e w:=ps (ps h hs hw') hs hw
theorem OA.blk {v:Value} {vs:List Value} {xs:List α} {i:Int} {x:α} (h:OA R c v vs xs) (hi:idx xs i=some x):Go.Lt.blk v=some (sb v):=by
 rcases h.2.1 with ⟨_,rfl⟩ | ⟨g,cap,rfl,_⟩
 ·have:=ej hi; simp at this; omega
 ·rfl
theorem f8 {v:Value} {vs:List Value} {xs:List α} {T E:TypeId} {k:IntKind} {i:Int} {x:α} (hT:P.underlying T=some (.slice E)) (hE:(P.info? E).map (·.size)=some R.size)
  (h:OA R c v vs xs) (hi:idx xs i=some x) (w:World):(Instr.indexAt T v (.int k i)).run P w= .ok (.pointer (some ⟨sb v,i.toNat * R.size,none⟩)) w:=by
 obtain ⟨h1,h2⟩:=ej hi;rcases h.2.1 with ⟨_,rfl⟩ | ⟨g,cap,rfl,_⟩
 ·simp at h2; omega
 ·obtain ⟨ti,hti,hsz⟩:=Option.map_eq_some_iff.1 hE;simp [Instr.indexAt,asIntOf,aH hT,h1,h2,sizeOf,typeInfo,hti,hsz,sb,bH]
theorem OA.at {v:Value} {vs:List Value} {xs:List α} {i:Int} {x:α} (h:OA R c v vs xs) (hi:idx xs i=some x):∃l,R.cells c l x∧(vs.drop (i.toNat * R.size)).take R.size=l:=⟨_,h.2.2 _ _ (bl hi),rfl⟩
theorem at2 {vs l l':List Value} {p n j:Nat} (h:(vs.drop p).take n=l) (hj:(l.drop j).take l'.length=l'):(vs.drop (p+j)).take l'.length=l':=by
 subst h
 conv=>rhs; rw [←hj]
 rw [eV,dM,eR];have h1:=hU List.length hj;rw [eV,dM,eR,aw] at h1
 congr 1
 omega
theorem Own.app {E t ty:TypeId} {v u:Value} {vs:List Value} {xs ys zs:List α} {z:Value} {by_:Nat} {m:Bool} (k:Nat) (O:Own c G F) (hk:F[k]? = some (es m R v E vs xs)) (h:OA R c v vs xs) (hS:Sl R c u ys) (happ:app xs ys=some zs)
  (hT:P.underlying t=some (.slice E)) (hi:(P.info? E).map (fun i=>(i.zero,i.size,i.bytes))=some (some z,R.size,by_)) (hz:z.cells.size=R.size) (hby:Nat.ble by_ 128=true)
  (hx:execOp ρ o=(do pure (Next.value (←Builtin.append_ #[t,t] ty #[v,u])):Sem Next)):
  ∃v' c',(execOp ρ o).run P c.w= .ok (.value v') c'.w∧c.le c'∧∃vs',Own c' G (F.set k (es m R v' E vs' zs))∧OA R c' v' vs' zs:=by
 obtain ⟨v',c',h1,h2,h3⟩:=gN (P:=P) (t:=t) (ty:=ty) k O hk h hS happ hT hi hz hby;exact ⟨v',c',rx hx h1,h2,h3⟩
def dS (R:Rp α) (c:Cx):List (List Value)→List α→Prop
 | [],[]=>True
 | l :: ls,x :: xs=>R.cells c l x∧dS R c ls xs
 | _,_=>False
theorem dS.len:∀{ls:List (List Value)} {xs:List α},dS R c ls xs→ls.flatten.length=xs.length * R.size
 | [],[],_=>by simp
 | l :: ls,x :: xs,h=>by
  simp only [f6,aA,bf,R.len h.1,dS.len h.2,bu,eQ];omega
 | [],_ :: _,h=>h.elim
 | _ :: _,[],h=>h.elim
theorem dS.get:∀{ls:List (List Value)} {xs:List α},dS R c ls xs→AR R c ls.flatten xs
 | [],[],_=>fun i x h=>by simp at h
 | l :: ls,x :: xs,h=>fun i y hy=>by
  cases i with
  | zero=>
   simp only [ef,aL] at hy;subst hy;rw [fX,eU,f6,←R.len h.1,List.take_left];exact h.1
  | succ i=>
   simp only [br] at hy;rw [f6,bu,eQ,Nat.add_comm (i * R.size),←R.len h.1,←dM,eW,R.len h.1];exact dS.get h.2 i y hy
 | [],_ :: _,h=>h.elim
 | _ :: _,[],h=>h.elim
theorem Own.newS (m:Bool) {E:TypeId} {vs:List Value} {xs:List α} {cap:Nat} (O:Own c G F) (hp:0 < R.size) (hA:AR R c vs xs) (hc:xs.length≤cap) (hm:cap≤maxLen) (hcs:cap * R.size≤vs.length)
  (hr:(execOp ρ o).run P c.w= .ok (.value (.slice (some ⟨c.w.heap.size,0,none⟩) xs.length cap)) (c.w.alloc (.cells vs.toArray E))):
  ∃v c',(execOp ρ o).run P c.w= .ok (.value v) c'.w∧c.le c'∧∃vs,Own c' G (es m R v E vs xs :: F)∧OA R c' v vs xs:=by
 obtain ⟨c',h1,h2,h3,_,h4⟩:=Cx.new c vs E (cond m 0 (xs.length * R.size));refine ⟨_,c',by rw [h1]; exact hr,h2.le,vs,O.cons h2 (fun _=>id) (fun b hb=>?_) (fun b hb=>?_),hp,.inr ⟨_,_,rfl,hc,hm,hcs⟩,hA.mono h2.le⟩
 ·simp only [es,Go.Lt.blk,aL] at hb; subst hb; exact ⟨h3,h4⟩
 ·simp only [es,Go.Lt.blk,aL] at hb; omega
theorem Own.sl (m:Bool) {E:TypeId} {ls:List (List Value)} {vs:List Value} {xs:List α} (O:Own c G F) (hp:0 < R.size) (hv:ls.flatten=vs) (hR:dS R c ls xs) (hm:Nat.ble xs.length 4294967296=true)
  (hr:(execOp ρ o).run P c.w= .ok (.value (.slice (some ⟨c.w.heap.size,0,none⟩) xs.length xs.length)) (c.w.alloc (.cells vs.toArray E))):
  ∃v c',(execOp ρ o).run P c.w= .ok (.value v) c'.w∧c.le c'∧∃vs,Own c' G (es m R v E vs xs :: F)∧OA R c' v vs xs:=by
 subst hv;have hm:=ai hm;exact Own.newS m O hp hR.get (ak _) (by unfold maxLen; omega) (by rw [hR.len]; exact ak _) hr
theorem Sl.cut {xs:List α} {l h m:Nat} {a:Option Addr} {cap:Nat} (hS:Sl R c (.slice a xs.length cap) xs) (h1:l≤h) (h2:h≤xs.length) (h3:h≤m) (h4:m≤cap):
  Sl R c (.slice (if m=l then a else a.map (·.add (l * R.size))) (h - l) (m - l)) ((xs.drop l).take (h - l)):=by
 obtain ⟨a',cap',hv,h5,h6,h7⟩:=hS;cases hv;have hlen:((xs.drop l).take (h - l)).length=h - l:=by rw [aw,be]; omega
 refine ⟨_,m - l,by rw [hlen],by rw [hlen]; omega,by omega,fun i x hx=>?_⟩;rw [aV] at hx;split at hx
 ·rename_i hi
  rw [fw] at hx;obtain ⟨b,off,q,rfl,hq,hc⟩:=h7 _ _ hx;have hne:m≠l:=by omega
  refine ⟨b,off+l * R.size,q,?_,hq,fun j u hu=>?_⟩
  ·rw [af hne]; simp [bH]
  ·have:=hc j u hu
   rwa [show off+(l+i) * R.size+j=off+l * R.size+i * R.size+j by rw [bu]; omega] at this
 ·cases hx
theorem eG {xs zs:List α} {i j:Int} (h:slc xs i j=some zs):0≤i∧i≤j∧j≤xs.length∧zs=(xs.drop i.toNat).take (j - i).toNat:=by
 unfold slc at h;split at h
 ·rename_i hh
  exact ⟨hh.1,hh.2.1,hh.2.2,by simpa using h.symm⟩
 ·cases h
theorem io {xs zs:List α} {i j:Int} (h:slc xs i j=some zs):(zs.length:Int)=j - i:=by
 obtain ⟨h1,h2,h3,rfl⟩:=eG h;rw [aw,be];omega
def iS (G G':Gm):Prop:=∀g k,G g k≠ []→G' g k=G g k
theorem Own.stGB {T:TypeId} {e:En} {b j:Nat} {us nw:List Value} {v:Value} {g k:Nat} {E:List En} (r:Nat) (O:Own c (ca G g k E) F) (hx:execOp ρ o=(do Instr.storeAt T (.pointer (some ⟨b,j,none⟩)) v; pure Next.skip:Sem Next)) (hr:E[r]? = some e) (hb:Go.Lt.blk e.v=some b) (hlim:e.lim=0)
  (hv:v.cells.toList=us) (hs:(P.info? T).map (·.size)=some us.length) (h1:de us) (hl:Nat.ble (j+us.length) e.vs.length=true) (hn:e.vs.take j++us++e.vs.drop (j+us.length)=nw):
  ∃c',(execOp ρ o).run P c.w= .ok .skip c'.w∧c.le c'∧Own c' (ca G g k (E.set r ⟨e.v,e.T,nw,0⟩)) F:=by
 obtain ⟨c',h1,h2,h3⟩:=Own.stG (P:=P) r O hx (a9 _ _ _ _) hr hb hlim hv hs h1 hl hn;rw [e7] at h3;exact ⟨c',h1,h2,h3⟩
def gW (n:Nat) (ks:List Nat):Bool:=ks.all (fun i=>Nat.blt i n) && decide ks.Nodup
theorem Own.selD (n:Nat) (ks:List Nat) (O:Own c G F) (hks:gW n ks=true) (hn:Nat.ble n F.length=true):Own c G (ks.map (fun i=>F.getD i er)++F.drop n):=by
 simp only [gW,aG,gk,bp] at hks;have hn:=ai hn;refine Own.sel (L:=F.take n) ks (by rw [List.take_append_drop]; exact O) hks.2 ?_;rw [List.map_map];refine List.map_congr_left fun i hi=>?_;have h1:i < n:=by have:=hks.1 i hi; simpa [Nat.blt_eq] using this
 simp only [Function.comp,aV,ac h1,ii];rw [aj (by omega)];rfl
def dvg (n:Int):Option Unit:=if n=0 then none else some ()
theorem hH {n:Int} {u:Unit} (h:dvg n=some u):n≠0:=by
 intro e;simp [dvg,e] at h
theorem ir {k:IntKind} {a b:Int} {u:Unit} (h:dvg b=some u) (hx:execOp ρ o=(do pure (Next.value (←Op.intDiv .quo k a b)):Sem Next)) (w:World):(execOp ρ o).run P w= .ok (.value (.int k (k.wrap (a.tdiv b)))) w:=by
 rw [hx];exact rv (by simp [Op.intDiv,hH h])
end
section
variable {P:Program} {c:Cx} {n:Fr} {e:Nat→Value} {fn:Func} {R:Ending→World→Prop}
theorem js {t b:Nat} {T U:TypeId} {vs:List Value} (hr:fn.results= #[.cell t T]) (hv:ev n e (.tmp t)= .pointer (some ⟨b,0,none⟩))
  (hT:(P.underlying T).map (fun d=>match d with | .struct _ | .array _ _=>true | _=>false)=some true) (hs:(P.info? T).map (·.size)=some vs.length) (h:c.w.heap[b]? = some (.cells vs.toArray U (0,0)))
  (hR:R (.returned (.agg vs.toArray)) c.w):dD P fn n R .ret e c.w:=by
 have hl:=dP (P:=P) (w:=c.w) (b:=b) (o:=0) (l:=vs) hT hs (fun j u hu=>by simp [World.cell?,h,hu]);refine ⟨.agg vs.toArray,?_,hR⟩;have ht:=b7 n e t;rw [hv,aM] at ht;simp [results,hr,ht,asAddr,hl]
theorem iT {t u b:Nat} {T U:TypeId} {vs:List Value} {v:Value} (hr:fn.results= #[.cell t T,.tmp u]) (hv:ev n e (.tmp t)= .pointer (some ⟨b,0,none⟩)) (hu:ev n e (.tmp u)=v)
  (hT:(P.underlying T).map (fun d=>match d with | .struct _ | .array _ _=>true | _=>false)=some true) (hs:(P.info? T).map (·.size)=some vs.length) (h:c.w.heap[b]? = some (.cells vs.toArray U (0,0)))
  (hR:R (.returned (.tuple #[.agg vs.toArray,v])) c.w):dD P fn n R .ret e c.w:=by
 have hl:=dP (P:=P) (w:=c.w) (b:=b) (o:=0) (l:=vs) hT hs (fun j u hu=>by simp [World.cell?,h,hu]);refine ⟨.tuple #[.agg vs.toArray,v],?_,hR⟩;have ht:=b7 n e t;have hu':=b7 n e u;rw [hv,aM] at ht;rw [hu,aM] at hu';simp [results,hr,ht,hu',asAddr,hl,Result.andThen]
theorem jT {w:World} {t u s:Nat} {v v' v'':Value} (hr:fn.results= #[.tmp t,.tmp u,.tmp s]) (hv:ev n e (.tmp t)=v) (hu:ev n e (.tmp u)=v') (hs:ev n e (.tmp s)=v'')
  (h:R (.returned (.tuple #[v,v',v''])) w):dD P fn n R .ret e w:=by
 refine ⟨.tuple #[v,v',v''],?_,h⟩;have h1:=b7 n e t;have h2:=b7 n e u;have h3:=b7 n e s;rw [hv,aM] at h1;rw [hu,aM] at h2;rw [hs,aM] at h3;simp [results,hr,h1,h2,h3]
end
section
variable {P:Program} {ρ:Operand→Value} {o:Oper} {T U:TypeId} {xs ys:Array Value} {fs:Array Field} {r:Bool}
end
end Go.Lt
namespace Go.Lt
abbrev T16:=Int×Int×Int×Int×Int×Int×Int×Int×Int×Int×Int×Int×Int×Int×Int×Int
def a16 (t:T16):List Int:=[t.1,t.2.1,t.2.2.1,t.2.2.2.1,t.2.2.2.2.1,t.2.2.2.2.2.1,t.2.2.2.2.2.2.1,t.2.2.2.2.2.2.2.1,t.2.2.2.2.2.2.2.2.1,t.2.2.2.2.2.2.2.2.2.1,t.2.2.2.2.2.2.2.2.2.2.1,t.2.2.2.2.2.2.2.2.2.2.2.1,t.2.2.2.2.2.2.2.2.2.2.2.2.1,t.2.2.2.2.2.2.2.2.2.2.2.2.2.1,t.2.2.2.2.2.2.2.2.2.2.2.2.2.2.1,t.2.2.2.2.2.2.2.2.2.2.2.2.2.2.2]
def l16 (l:List Int):T16:=(l.getD 0 0,l.getD 1 0,l.getD 2 0,l.getD 3 0,l.getD 4 0,l.getD 5 0,l.getD 6 0,l.getD 7 0,l.getD 8 0,l.getD 9 0,l.getD 10 0,l.getD 11 0,l.getD 12 0,l.getD 13 0,l.getD 14 0,l.getD 15 0)
theorem cY (t:T16):(a16 t).length=16:=rfl
theorem iM {l:List Int} (h:l.length=16):a16 (l16 l)=l:=by
 match l,h with
 | [_,_,_,_,_,_,_,_,_,_,_,_,_,_,_,_],_=>rfl
def ge (t:T16) (i x:Int):T16:=l16 ((a16 t).set i.toNat x)
theorem fV (t:T16) (i x:Int):a16 (ge t i x)=(a16 t).set i.toNat x:=iM (by rw [dA]; rfl)
theorem iq {α:Type} (pre l post:List α) {m:Nat} (x:α) (h:m < l.length):(pre++l++post).take (pre.length+m * 1)++ [x]++(pre++l++post).drop (pre.length+m * 1+1)=pre++l.set m x++post:=by
 rw [jN,a7 pre l post,List.take_append,List.drop_append,jj (by omega),List.drop_of_length_le (l:=pre) (by omega),cL];rw [show pre.length+m - pre.length=m by omega,show pre.length+m+1 - pre.length=m+1 by omega];rw [du (by omega),gr (by omega)];rw [List.set_eq_take_append_cons_drop,ac h];simp only [a7,List.cons_append,cL]
theorem jr {k:IntKind} {t y:T16} {i x z:Int} (h:idx (a16 t) i=some z) (hy:some (ge t i x)=some y) (pre post:List Value):
  (pre++(a16 t).map (Value.int k)++post).take (pre.length+i.toNat * 1)++ [.int k x]++(pre++(a16 t).map (Value.int k)++post).drop (pre.length+i.toNat * 1+1)=pre++(a16 y).map (Value.int k)++post:=by
 have hl:=ej h;rw [cY] at hl;cases hy;rw [iq _ _ _ _ (by rw [dB,cY]; omega),fV,List.map_set]
theorem jM {i z:Int} {t:T16} (h:idx (a16 t) i=some z) {p n:Nat} (hn:p+16≤n):Nat.ble (p+i.toNat * 1+1) n=true:=by
 have hl:=ej h;rw [cY] at hl;exact eC (by omega)
section
variable {P:Program} {c c':Cx} {G:Gm} {F:List En} {ρ:Operand→Value} {o:Oper}
theorem Own.appSrc {α:Type} {R:Rp α} {E t ty:TypeId} {v:Value} {vs:List Value} {xs ys zs:List α} {z:Value} {by_:Nat} {m:Bool} {ua:Option Addr} {ucap:Nat} {nw:List Value} (k:Nat) (O:Own c G F) (hk:F[k]? = some (es m R v E vs xs)) (h:OA R c v vs xs)
  (n1:nw.length=ys.length * R.size) (n2:ys≠ []→∃ub uo,ua=some ⟨ub,uo,none⟩∧∀j w,nw[j]? = some w→c.w.cell? ⟨ub,uo+j,none⟩=some w) (n3:∀w∈nw,w.oneCell'=true) (n4:∀i x,ys[i]? = some x→R.cells c ((nw.drop (i * R.size)).take R.size) x) (happ:Go.Lt.app xs ys=some zs)
  (hT:P.underlying t=some (.slice E)) (hi:(P.info? E).map (fun i=>(i.zero,i.size,i.bytes))=some (some z,R.size,by_)) (hz:z.cells.size=R.size) (hby:Nat.ble by_ 128=true)
  (hx:execOp ρ o=(do pure (Next.value (←Builtin.append_ #[t,t] ty #[v,.slice ua ys.length ucap])):Sem Next)):
  ∃v' c',(execOp ρ o).run P c.w= .ok (.value v') c'.w∧c.le c'∧∃vs',Own c' G (F.set k (es m R v' E vs' zs))∧OA R c' v' vs' zs:=by
 obtain ⟨v',c',h1,h2,h3⟩:=eN (P:=P) (t:=t) (ty:=ty) (ucap:=ucap) k O hk h n1 n2 n3 n4 happ hT hi hz hby;exact ⟨v',c',rx hx h1,h2,h3⟩
theorem f9 {T E:TypeId} {n sz b j:Nat} {k:IntKind} {i:Int} (hT:P.underlying T=some (.array n E)) (hE:(P.info? E).map (·.size)=some sz) (h0:0≤i) (h1:i < (n:Int)) (w:World):
  (Instr.indexAt T (.pointer (some ⟨b,j,none⟩)) (.int k i)).run P w= .ok (.pointer (some ⟨b,j+i.toNat * sz,none⟩)) w:=by
 obtain ⟨ti,hti,hsz⟩:=Option.map_eq_some_iff.1 hE;simp [Instr.indexAt,asIntOf,Instr.sureAddr,aH hT,h0,h1,sizeOf,typeInfo,hti,hsz,bH]
theorem gY {T E:TypeId} {n b j:Nat} {k:IntKind} {i:Int} (hT:P.underlying T=some (.array n E)) (hE:((P.info? E).map (·.size)).isSome=true) (h0:0≤i) (h1:i≤(n:Int)) (w:World):
  (Instr.sliceAt T (.pointer (some ⟨b,j,none⟩)) none (some (.int k i)) none).run P w= .ok (.slice (some ⟨b,j,none⟩) i.toNat n) w:=by
 cases hti:P.info? E with
 | none=>rw [hti] at hE; cases hE
 | some ti=>
  have e2:0≤i∧i≤(n:Int):=⟨h0,h1⟩;simp [Instr.sliceAt,Instr.sureAddr,aH hT,Instr.sliceBounds,Instr.sliceBound,asIntOf,e2,sizeOf,typeInfo,hti,bH]
theorem i5 {k:IntKind} {t:T16} {i:Int} {xs:List Int} (h:slc (a16 t) 0 i=some xs) (pre post:List Value) (m:Nat) (u:Value) (hu:(xs.map (Value.int k))[m]? = some u):(pre++(a16 t).map (Value.int k)++post)[pre.length+m]? = some u:=by
 obtain ⟨h1,h2,h3,rfl⟩:=eG h;rw [cY] at h3;rw [f5] at hu;simp only [Int.toNat_zero,eU,aV] at hu;split at hu
 ·rename_i hm
  have hm16:m < 16:=by omega
  rw [a7,aq (by omega),show pre.length+m - pre.length=m by omega,ah (by rw [dB,cY]; exact hm16),f5];exact hu
 ·cases hu
theorem gS {t:T16} {i:Int} {xs:List Int} (h:slc (a16 t) 0 i=some xs):xs.length=i.toNat:=by
 have:=io h;omega
theorem dS.map {α:Type} {R:Rp α} {c:Cx} (f:α→List Value) (h:∀x,R.cells c (f x) x):∀l:List α,dS R c (l.map f) l
 | []=>trivial
 | x :: l=>⟨h x,dS.map f h l⟩
end
end Go.Lt
namespace Go.Lt
section
variable {P:Program} {c c':Cx} {G:Gm} {F:List En} {ρ:Operand→Value} {o:Oper}
theorem Own.frzB {b:Nat} {T:TypeId} {vs:List Value} (k:Nat) (O:Own c G F) (hk:F[k]? = some ⟨.pointer (some ⟨b,0,none⟩),T,vs,0⟩):
  ∃c',c'.w=c.w∧c.le c'∧Own c' G (F.set k ⟨.pointer (some ⟨b,0,none⟩),T,vs,vs.length⟩)∧∀j u,vs[j]? = some u→Im c' b (0+j) u:=by
 have hon:=O.on k hk;obtain ⟨hh,hA⟩:=hon b rfl
 let c':Cx:=⟨c.w,fun b' o=>c.A b' o∧¬(b'=b∧o < vs.length),c.t⟩
 have hle:c.le c':=⟨rfl,rfl,ak _,fun _ _ _ h=>⟨rfl,fun h2=>h h2.1⟩,fun _ _ _=>rfl,fun _ _ _=>rfl,fun _ _ _ h=>h⟩;have hb:c.but (fun b'=>b'=b) c':=⟨hle,rfl,fun b' hb' hd=>⟨rfl,fun o=>⟨fun h=>h.1,fun h=>⟨h,fun h2=>hd h2.1⟩⟩⟩⟩;refine ⟨c',rfl,hle,O.set k hk hb (fun b' h=>by rw [h]; rfl) (fun b' hb'=>?_) (fun b' h=> .inl h),fun j u hu=>⟨hon.lt rfl,fun hA'=>?_,?_⟩⟩
 ·simp only [blk,aL] at hb';subst hb';refine ⟨hh,fun o=>?_⟩;show (c.A b o∧¬(b=b∧o < vs.length))↔vs.length≤o;rw [hA o];simp
 ·have:=(List.getElem?_eq_some_iff.1 hu).1;exact hA'.2 ⟨rfl,by omega⟩
 ·show c.w.cell? _=_;rw [dU _ _ _ _ _ _ hh,aK,bV,hu]
end
section
variable {P:Program} {c:Cx} {n:Fr} {e:Nat→Value} {fn:Func} {R:Ending→World→Prop}
end
section
variable {D:List Nat} {K:Cx→Prop} {P:Program} {l:List Oper} {n:Fr} {Q:Exit→(Nat→Value)→World→Prop} {fuel:Nat} {li:List Bool} {e:Nat→Value} {c:Cx} {o:Oper}
end
end Go.Lt
namespace Go.Lt
theorem pt {c c':Cx} (k:c.le c':=by repeat (first | assumption | exact Cx.le.refl _ | refine Cx.le.trans ?_ (by assumption))):c.le c':=k
section
variable {c c':Cx} {α:Type} {R:Rp α}
theorem Sl.m {v:Value} {xs:List α} (h:Sl R c v xs) (k:c.le c':=by repeat (first | assumption | refine Cx.le.trans ?_ (by assumption))):Sl R c' v xs:=h.mono k
theorem OA.m {v:Value} {vs:List Value} {xs:List α} (h:OA R c v vs xs) (k:c.le c':=by repeat (first | assumption | refine Cx.le.trans ?_ (by assumption))):OA R c' v vs xs:=h.mono k
theorem Pt.m {g:Nat} {v:Value} {p:Option Nat} (h:Pt g c v p) (k:c.le c':=by repeat (first | assumption | refine Cx.le.trans ?_ (by assumption))):Pt g c' v p:=h.mono k
theorem mm {b o:Nat} {L:List Value} (h:∀j u,L[j]? = some u→Im c b (o+j) u) (k:c.le c':=by repeat (first | assumption | refine Cx.le.trans ?_ (by assumption))):∀j u,L[j]? = some u→Im c' b (o+j) u:=fun j u hu=>(h j u hu).mono k
theorem tm {g k b:Nat} (h:c.t g k=some b) (l:c.le c':=by repeat (first | assumption | refine Cx.le.trans ?_ (by assumption))):c'.t g k=some b:=l.t _ _ _ h
end
theorem fK {e:Nat→Value}:∀{l:List (Nat×Value)},l.map (fun x=>e x.1)=l.map (fun x=>x.2)→eK e l
 | [],_=>trivial
 | (t,v) :: l,h=>by
  simp only [List.map_cons,List.cons.injEq] at h;exact ⟨h.1,fK h.2⟩
theorem us {e:Nat→Value} {l:List (Nat×Value)} (h:l.map (fun x=>e x.1)=l.map (fun x=>x.2):=by kernel_rfl):e=ups e l:=fA (fK h)
abbrev Jn (c0:Cx) (q:Cx→List (Nat×Value)→Prop) (e:Nat→Value) (w:World):Prop:=∃(c:Cx) (g:Nat→Value) (l:List (Nat×Value)),w=c.w∧c0.le c∧e=ups g l∧q c l
theorem jn {c0:Cx} {q:Cx→List (Nat×Value)→Prop} {e:Nat→Value} {l:List (Nat×Value)} (c:Cx) (h:q c l) (k:c0.le c:=by repeat (first | assumption | exact Cx.le.refl _ | refine Cx.le.trans ?_ (by assumption))) (u:l.map (fun x=>e x.1)=l.map (fun x=>x.2):=by kernel_rfl):Jn c0 q e c.w:=⟨c,e,l,rfl,k,us u,h⟩
theorem qq {c0:Cx} {X:Cx→Value→Prop} {v:Value} (c:Cx) (h:X c v) (k:c0.le c:=by repeat (first | assumption | exact Cx.le.refl _ | refine Cx.le.trans ?_ (by assumption))):aR c0 X (.returned v) c.w:=⟨v,c,rfl,rfl,k,h⟩
theorem bn {α β:Type} {x:Option α} {f:α→Option β} {r:β} {C:Prop} (H:x.bind f=some r) (k:∀a,x=some a→f a=some r→C):C:=by
 obtain ⟨a,h1,h2⟩:=bs H;exact k a h1 h2
theorem si {α:Type} {a b:α} (h:some a=some b):a=b:=gO h
theorem bo (b:Bool):b=true∨b=false:=Bool.eq_false_or_eq_true b
theorem Own.sD {c:Cx} {G:Gm} {F:List En} (O:Own c G F) (n:Nat) (ks:List Nat) (h1:gW n ks=true:=by kernel_rfl) (h2:Nat.ble n F.length=true:=by kernel_rfl):Own c G (ks.map (fun i=>F.getD i er)++F.drop n):=O.selD n ks h1 h2
section
variable {P:Program} {c c':Cx} {G:Gm} {F:List En} {α:Type} {R:Rp α} {ρ:Operand→Value} {o:Oper} {fn:Func}
variable {n:Fr} {ops:Array Oper} {Q:Exit→(Nat→Value)→World→Prop} {rest:List Oper} {e:Nat→Value} {D:List Nat} {K:Cx→Prop} {l:List Oper} {fuel:Nat} {li:List Bool} {a b:Code} {w:World}
theorem vx {s:Sem Value} {v:Value} (h0:s.run P w= .ok v w) (h:WL P ops n Q rest (upO e o.dst v) w) (hg:o.guard=none:=by exact rfl) (hx:execOp (ev n e) o=(do pure (Next.value (←s)):Sem Next):=by kernel_rfl):WL P ops n Q (o :: rest) e w:=WL.val0 hg (rx hx h0) h
theorem vr (v:Value) (hr:(execOp (ev n e) o).run P w= .ok (.value v) w) (h:WL P ops n Q rest (upO e o.dst v) w) (hg:o.guard=none:=by exact rfl):WL P ops n Q (o :: rest) e w:=WL.val0 hg hr h
theorem cl {f:FuncId} {args:Array Value} {X:Cx→Value→Prop} (hc:Calls P f args c.w (aR c X)) (h:∀v c',c.le c'→X c' v→WL P ops n Q rest (upO e o.dst v) c'.w) (hg:o.guard=none:=by exact rfl) (hr:(execOp (ev n e) o).run P c.w= .ok (.enter f args) c.w:=by kernel_rfl):WL P ops n Q (o :: rest) e c.w:=WL.callP hg hr hc h
theorem me {X:Value→Cx→Prop} (hr:∃v c',(execOp (ev n e) o).run P c.w= .ok (.value v) c'.w∧c.le c'∧X v c') (h:∀v c',c.le c'→X v c'→WL P ops n Q rest (upO e o.dst v) c'.w) (hg:o.guard=none:=by exact rfl):WL P ops n Q (o :: rest) e c.w:=WL.mem hg hr h
theorem md {X:Cx→Prop} (hr:∃c',(execOp (ev n e) o).run P c.w= .ok .skip c'.w∧c.le c'∧X c') (h:∀c',c.le c'→X c'→WL P ops n Q rest (upO e o.dst undef) c'.w) (hg:o.guard=none:=by exact rfl):WL P ops n Q (o :: rest) e c.w:=WL.memD hg hr h
theorem cn {α:Type} {t:Bool} {x y:Option α} {r:α} {cd:Operand} (H:(if t=true then x else y)=some r) (h1:t=true→x=some r→W P n a Q e w) (h2:t=false→y=some r→W P n b Q e w) (hc:ev n e cd= .bool t:=by kernel_rfl):W P n (.cond cd a b) Q e w:=
 W.cond hc (fun h=>h1 h (it h H)) (fun h=>h2 h (ie h H))
theorem lp {σ τ:Type} {step:σ→Option (σ ⊕ τ)} {fuel:Nat} {s:σ} {t:τ} (H:cQ fuel step s=some t) (F:σ→(Nat→Value)→World→Prop) (Out:τ→Exit→(Nat→Value)→World→Prop)
  (hb:∀s x e w,step s=some x→F s e w→W P n a (lpQ F Out x) e w) (h0:F s e w) (hQ:∀x e w,Out t x e w→Q x e w):W P n (.loop a) Q e w:=W.loop F Out hb H h0 hQ
theorem en {P:Program} {f:FuncId} {fn:Func} {code:Code} {n:Nat} {l:List Value} {w:World} {R:Ending→World→Prop} (hf:P.funcs[f]? = some fn) (hb:fn.body=some code) (hn:fn.ntmps=n) (h:W P ⟨n,[],none⟩ code (dD P fn ⟨n,[],none⟩ R) (ar l) w) (hl:Nat.ble l.length n=true:=by rfl):Calls P f l.toArray w R:=enter hf hb hn hl h
theorem tx (i:Nat) {s:Sem Value} {v:Value} (h0:∀c',c.le c'→s.run P c'.w= .ok v c'.w) (h:AC D K P l n Q fuel (li.set i true) (upO e o.dst v) c) (hi:l.toArray[i]? = some o:=by exact rfl) (ht:tk l n li i=true:=by kernel_rfl) (hw:bv l.toArray n e o=true:=by kernel_rfl)
  (hx:execOp (ev n e) o=(do pure (Next.value (←s)):Sem Next):=by kernel_rfl):AC D K P l n Q (fuel+1) li e c:=AC.take i v hi ht hw (fun c' k=>rx hx (h0 c' k)) h
theorem tkx (i:Nat) {s:Sem Value} {v:Value} (p:K c) (h0:∀c',c.le c'→K c'→s.run P c'.w= .ok v c'.w) (h:AC D K P l n Q fuel (li.set i true) (upO e o.dst v) c) (hi:l.toArray[i]? = some o:=by exact rfl) (ht:tk l n li i=true:=by kernel_rfl) (hB:okB l.toArray li i D=true:=by kernel_rfl)
  (hw:bv l.toArray n e o=true:=by kernel_rfl) (hx:execOp (ev n e) o=(do pure (Next.value (←s)):Sem Next):=by kernel_rfl):AC D K P l n Q (fuel+1) li e c:=AC.takeK i v p hi ht hB hw (fun c' k q=>rx hx (h0 c' k q)) h
theorem tp (i:Nat) (h:AC D K P l n Q fuel (li.set i true) (upO e o.dst undef) c) (hi:l.toArray[i]? = some o:=by exact rfl) (ht:tk l n li i=true:=by kernel_rfl) (hw:bv l.toArray n e o=false:=by kernel_rfl):AC D K P l n Q (fuel+1) li e c:=AC.pass i hi ht hw h
theorem dn (h:Q .normal e c.w) (hr:Region.ready .any l.toArray li.toArray= []:=by kernel_rfl):AC D K P l n Q fuel li e c:=AC.done hr h
theorem o1 (i:Nat) (h:Go1 D K P l n Q fuel li e c i) (hr:Region.ready .any l.toArray li.toArray= [i]:=by kernel_rfl):AC D K P l n Q (fuel+1) li e c:=AC.one i hr h
theorem gm (i:Nat) {X:Value→Cx→Prop} (hr:∃v c',(execOp (ev n e) o).run P c.w= .ok (.value v) c'.w∧c.le c'∧X v c') (h:∀v c',c.le c'→X v c'→(D.contains i=true∨K c')∧AC D K P l n Q fuel (li.set i true) (upO e o.dst v) c')
  (hi:l.toArray[i]? = some o:=by exact rfl) (hsl:a8 n l=true:=by kernel_rfl) (hw:bv l.toArray n e o=true:=by kernel_rfl):Go1 D K P l n Q fuel li e c i:=Go1.mem i hi hsl hw hr h
theorem gD (i:Nat) {X:Cx→Prop} (hr:∃c',(execOp (ev n e) o).run P c.w= .ok .skip c'.w∧c.le c'∧X c') (h:∀c',c.le c'→X c'→(D.contains i=true∨K c')∧AC D K P l n Q fuel (li.set i true) (upO e o.dst undef) c')
  (hi:l.toArray[i]? = some o:=by exact rfl) (hsl:a8 n l=true:=by kernel_rfl) (hw:bv l.toArray n e o=true:=by kernel_rfl):Go1 D K P l n Q fuel li e c i:=Go1.memD i hi hsl hw hr h
theorem gc (i:Nat) {f:FuncId} {args:Array Value} {X:Cx→Value→Prop} (hc:Calls P f args c.w (aR c X)) (h:∀v c',c.le c'→X c' v→(D.contains i=true∨K c')∧AC D K P l n Q fuel (li.set i true) (upO e o.dst v) c')
  (hi:l.toArray[i]? = some o:=by exact rfl) (hsl:a8 n l=true:=by kernel_rfl) (hw:bv l.toArray n e o=true:=by kernel_rfl) (hr:(execOp (ev n e) o).run P c.w= .ok (.enter f args) c.w:=by kernel_rfl):Go1 D K P l n Q fuel li e c i:=Go1.callP i hi hsl hw hr hc h
theorem rD (D:List Nat) (K:Cx→Prop) {id:Nat} (O:Own c G F) (h:∀c',c.le c'→Own c' G F→AC D K P l n Q l.length (List.replicate l.length false) e c') (hm:P.follows .mixedOrders=true:=by kernel_rfl):W P n (.region id l.toArray true) Q e c.w:=W.regionD D K O hm h
theorem l1 {T:TypeId} {b o:Nat} {v:Value} {d:TypeDesc} (hT:P.underlying T=some d) (h:Im c b o v) (hd:(match d with | .struct _ | .array _ _=>false | _=>true)=true:=by rfl):(Instr.loadAt T (.pointer (some ⟨b,o,none⟩))).run P c.w= .ok v c.w:=gv hT hd h
theorem lN (T:TypeId) {b o:Nat} {l:List Value} (h:∀j u,l[j]? = some u→Im c b (o+j) u) (hT:(P.underlying T).map (fun d=>match d with | .struct _ | .array _ _=>true | _=>false)=some true:=by kernel_rfl) (hs:(P.info? T).map (·.size)=some l.length:=by kernel_rfl):
  (Instr.loadAt T (.pointer (some ⟨b,o,none⟩))).run P c.w= .ok (.agg l.toArray) c.w:=gu hT hs h
theorem le1 (j:Nat) {T:TypeId} {e:En} {b:Nat} {v:Value} {d:TypeDesc} (hT:P.underlying T=some d) (h:e.on c) (hd:(match d with | .struct _ | .array _ _=>false | _=>true)=true:=by rfl) (hb:blk e.v=some b:=by rfl) (hj:e.vs[j]? = some v:=by rfl):
  (Instr.loadAt T (.pointer (some ⟨b,j,none⟩))).run P c.w= .ok v c.w:=jY hT hd h hb hj
theorem leN (T j:Nat) (l:List Value) {e:En} {b:Nat} (h:e.on c) (hT:(P.underlying T).map (fun d=>match d with | .struct _ | .array _ _=>true | _=>false)=some true:=by kernel_rfl) (hs:(P.info? T).map (·.size)=some l.length:=by kernel_rfl) (hb:blk e.v=some b:=by rfl) (hl:(e.vs.drop j).take l.length=l:=by rfl):
  (Instr.loadAt T (.pointer (some ⟨b,j,none⟩))).run P c.w= .ok (.agg l.toArray) c.w:=jA hT hs h hb hl
theorem ix {v:Value} {xs:List α} {T E:TypeId} {i:Int} {x:α} (hT:P.underlying T=some (.slice E)) (h:Sl R c v xs) (hi:idx xs i=some x) (hE:(P.info? E).map (·.size)=some R.size:=by kernel_rfl):
  (Instr.indexAt T v (.int .i64 i)).run P w= .ok (.pointer (some ⟨sb v,so v+i.toNat * R.size,none⟩)) w:=gw hT hE h hi w
theorem ixO {v:Value} {vs:List Value} {xs:List α} {T E:TypeId} {i:Int} {x:α} (hT:P.underlying T=some (.slice E)) (h:OA R c v vs xs) (hi:idx xs i=some x) (hE:(P.info? E).map (·.size)=some R.size:=by kernel_rfl):
  (Instr.indexAt T v (.int .i64 i)).run P w= .ok (.pointer (some ⟨sb v,i.toNat * R.size,none⟩)) w:=f8 hT hE h hi w
theorem ln {v:Value} {xs:List α} {T E:TypeId} (ty:TypeId) (hT:P.underlying T=some (.slice E)) (h:Sl R c v xs):(Builtin.len_ #[T] ty #[v]).run P w= .ok (.int .i64 (xs.length:Int)) w:=iu hT h w
theorem lnO {v:Value} {vs:List Value} {xs:List α} {T E:TypeId} (ty:TypeId) (hT:P.underlying T=some (.slice E)) (h:OA R c v vs xs):(Builtin.len_ #[T] ty #[v]).run P w= .ok (.int .i64 (xs.length:Int)) w:=gX hT h w
theorem bx (T:TypeId) (vs:List Value) (O:Own c G F) (hr:(execOp ρ o).run P c.w= .ok (.value (.pointer (some ⟨c.w.heap.size,0,none⟩))) (c.w.alloc (.cells vs.toArray T)):=by kernel_rfl):
  ∃v c',(execOp ρ o).run P c.w= .ok (.value v) c'.w∧c.le c'∧∃b,v= .pointer (some ⟨b,0,none⟩)∧Own c' G F∧∀j u,vs[j]? = some u→Im c' b (0+j) u:=Own.bx O hr
theorem al (T:TypeId) (vs:List Value) (O:Own c G F) (hr:(execOp ρ o).run P c.w= .ok (.value (.pointer (some ⟨c.w.heap.size,0,none⟩))) (c.w.alloc (.cells vs.toArray T)):=by kernel_rfl):
  ∃v c',(execOp ρ o).run P c.w= .ok (.value v) c'.w∧c.le c'∧∃b,v= .pointer (some ⟨b,0,none⟩)∧Own c' G (⟨.pointer (some ⟨b,0,none⟩),T,vs,0⟩ :: F):=Own.al O hr
theorem sA (T:TypeId) (us:List Value) {e:En} {b:Nat} (k:Nat) (O:Own c G F) (h1:de us) (hx:execOp ρ o=(do Instr.storeAt T (.pointer (some ⟨b,0,none⟩)) (.agg us.toArray); pure Next.skip:Sem Next):=by kernel_rfl) (hk:F[k]? = some e:=by rfl) (hb:blk e.v=some b:=by rfl) (hlim:e.lim=0:=by rfl)
  (hs:(P.info? T).map (·.size)=some us.length:=by kernel_rfl) (hl:Nat.ble (0+us.length) e.vs.length=true:=by rfl) (hn:e.vs.take 0++us++e.vs.drop (0+us.length)=us:=by rfl):∃c',(execOp ρ o).run P c.w= .ok .skip c'.w∧c.le c'∧Own c' G (F.set k ⟨e.v,e.T,us,0⟩):=Own.st k O hx hk hb hlim rfl hs h1 hl hn
theorem ia {v:Value} (h:v.oneCell'=true):v.cells.toList= [v]:=by
 cases v <;> first | rfl | (simp [Value.oneCell'] at h)
theorem sC (T j:Nat) (v:Value) (nw:List Value) {e:En} {b:Nat} (k:Nat) (O:Own c G F) (h1:de [v]) (hx:execOp ρ o=(do Instr.storeAt T (.pointer (some ⟨b,j,none⟩)) v; pure Next.skip:Sem Next):=by kernel_rfl) (hk:F[k]? = some e:=by rfl) (hb:blk e.v=some b:=by rfl) (hlim:e.lim=0:=by rfl)
  (hs:(P.info? T).map (·.size)=some 1:=by kernel_rfl) (hl:Nat.ble (j+1) e.vs.length=true:=by rfl) (hn:e.vs.take j++ [v]++e.vs.drop (j+1)=nw:=by rfl):∃c',(execOp ρ o).run P c.w= .ok .skip c'.w∧c.le c'∧Own c' G (F.set k ⟨e.v,e.T,nw,0⟩):=Own.st k O hx hk hb hlim (ia h1.1) hs h1 hl hn
theorem gC (T j:Nat) (v:Value) (nw:List Value) {e:En} {b g k:Nat} {E:List En} (r:Nat) (O:Own c G F) (hE:G g k=E) (h1:de [v]) (hx:execOp ρ o=(do Instr.storeAt T (.pointer (some ⟨b,j,none⟩)) v; pure Next.skip:Sem Next):=by kernel_rfl) (hr:E[r]? = some e:=by rfl) (hb:blk e.v=some b:=by rfl) (hlim:e.lim=0:=by rfl)
  (hs:(P.info? T).map (·.size)=some 1:=by kernel_rfl) (hl:Nat.ble (j+1) e.vs.length=true:=by rfl) (hn:e.vs.take j++ [v]++e.vs.drop (j+1)=nw:=by rfl):∃c',(execOp ρ o).run P c.w= .ok .skip c'.w∧c.le c'∧Own c' (ca G g k (E.set r ⟨e.v,e.T,nw,0⟩)) F:=Own.stG r O hx hE hr hb hlim (ia h1.1) hs h1 hl hn
theorem sl (R:Rp α) (E:TypeId) (ls:List (List Value)) (xs:List α) (O:Own c G F) (hR:dS R c ls xs) (hp:0 < R.size:=by exact bW _) (hm:Nat.ble xs.length 4294967296=true:=by kernel_rfl)
  (hr:(execOp ρ o).run P c.w= .ok (.value (.slice (some ⟨c.w.heap.size,0,none⟩) xs.length xs.length)) (c.w.alloc (.cells ls.flatten.toArray E)):=by kernel_rfl):
  ∃v c',(execOp ρ o).run P c.w= .ok (.value v) c'.w∧c.le c'∧∃vs,Own c' G (es true R v E vs xs :: F)∧OA R c' v vs xs:=Own.sl true O hp rfl hR hm hr
theorem ap (R:Rp α) (z:Value) (by_ ty:Nat) {E t:TypeId} {v u:Value} {vs:List Value} {xs ys zs:List α} {m:Bool} (k:Nat) (O:Own c G F) (h:OA R c v vs xs) (hS:Sl R c u ys) (happ:app xs ys=some zs) (hT:P.underlying t=some (.slice E)) (hk:F[k]? = some (es m R v E vs xs):=by rfl)
  (hi:(P.info? E).map (fun i=>(i.zero,i.size,i.bytes))=some (some z,R.size,by_):=by kernel_rfl) (hz:z.cells.size=R.size:=by rfl) (hby:Nat.ble by_ 128=true:=by kernel_rfl) (hx:execOp ρ o=(do pure (Next.value (←Builtin.append_ #[t,t] ty #[v,u])):Sem Next):=by kernel_rfl):
  ∃v' c',(execOp ρ o).run P c.w= .ok (.value v') c'.w∧c.le c'∧∃vs',Own c' G (F.set k (es m R v' E vs' zs))∧OA R c' v' vs' zs:=Own.app k O hk h hS happ hT hi hz hby hx
variable {RR:Ending→World→Prop}
theorem r0 (h:RR (.returned (.tuple #[])) w) (hr:fn.results= #[]:=by rfl):dD P fn n RR .ret e w:=jU hr h
theorem n0 (h:RR (.returned (.tuple #[])) w) (hr:fn.results= #[]:=by rfl):dD P fn n RR .normal e w:=j6 hr h
theorem r1 {t:Nat} {v:Value} (h:RR (.returned v) w) (hr:fn.results= #[.tmp t]:=by rfl) (hv:ev n e (.tmp t)=v:=by kernel_rfl):dD P fn n RR .ret e w:=jt hr hv h
theorem r3 {t u s:Nat} {v v' v'':Value} (h:RR (.returned (.tuple #[v,v',v''])) w) (hr:fn.results= #[.tmp t,.tmp u,.tmp s]:=by rfl) (hv:ev n e (.tmp t)=v:=by kernel_rfl) (hu:ev n e (.tmp u)=v':=by kernel_rfl) (hs:ev n e (.tmp s)=v'':=by kernel_rfl):dD P fn n RR .ret e w:=jT hr hv hu hs h
end
abbrev I (x:Int):Value:= .int .i64 x
abbrev J (x:Int):Value:= .int .i32 x
abbrev B (x:Bool):Value:= .bool x
abbrev Q (b:Nat):Value:= .pointer (some ⟨b,0,none⟩)
abbrev Qo (b o:Nat):Value:= .pointer (some ⟨b,o,none⟩)
abbrev aa (a b c:Int):Value:= .agg #[I a,I b,I c]
abbrev III (a b:Int):Value:= .agg #[I a,I b]
abbrev ko (a b c:Int):Value:= .agg #[J a,J b,J c]
abbrev JII (a b:Int):Value:= .agg #[J a,J b]
abbrev Y:Value:= .slice none 0 0
abbrev Eb (b:Nat) (T:TypeId) (l:List Value):En:=⟨.pointer (some ⟨b,0,none⟩),T,l,0⟩
end Go.Lt
namespace Go.Proofs.Ytmncdniojmigeaa
open Go Go.Lt
set_option linter.unusedVariables false
structure ae where
 Break:Int
 Pict:Bool
 Conj:Int
 East:Int
def ji:Rp ae where
 size:=4
 cells:=fun _ l x=>l= [.int .i64 x.Break,.bool x.Pict,.int .i64 x.Conj,.int .i64 x.East]
 len:=by
  intro c l x h
  obtain rfl:=h
  rfl
 one:=by
  intro c l x h v hv
  obtain rfl:=h
  simp only [fd,ee,jz] at hv
  rcases hv with rfl | rfl | rfl | rfl
  ·rfl
  ·rfl
  ·rfl
  ·rfl
 mono:=by
  intro c c2 l x hc h
  obtain rfl:=h
  exact rfl
structure aX where
 Wide:Int
 Text:List Int
def bd:Rp aX where
 size:=2
 cells:=fun c l x=>∃y1:Value,l= [.int .i64 x.Wide,y1]∧Sl (RI .i32) c y1 x.Text
 len:=by
  intro c l x h
  obtain ⟨_,rfl,h0⟩:=h
  rfl
 one:=by
  intro c l x h v hv
  obtain ⟨_,rfl,h0⟩:=h
  simp only [fd,ee,jz] at hv
  rcases hv with rfl | rfl
  ·rfl
  ·exact h0.one
 mono:=by
  intro c c2 l x hc h
  obtain ⟨_,rfl,h0⟩:=h
  exact ⟨_,rfl,h0.lw hc⟩
structure az where
 some:Bool
 last:Int
 pict:Int
 conj:Int
 odd:Bool
structure ad where
 text:Int×Int×Int×Int×Int×Int×Int×Int×Int×Int×Int×Int×Int×Int×Int×Int
 n:Int
structure aF where
 some:Bool
 pict:Bool
 wide:Bool
def dQ:Rp (Int×Int) where
 size:=2
 cells:=fun _ l x=>l= [.int .i32 x.1,.int .i32 x.2]
 len:=by
  intro c l x h
  obtain rfl:=h
  rfl
 one:=by
  intro c l x h v hv
  obtain rfl:=h
  simp only [fd,ee,jz] at hv
  rcases hv with rfl | rfl
  ·rfl
  ·rfl
 mono:=fun _ h=>h
def bm:Rp (Int×Int×Int) where
 size:=3
 cells:=fun _ l x=>l= [.int .i64 x.1,.int .i64 x.2.1,.int .i64 x.2.2]
 len:=by
  intro c l x h
  obtain rfl:=h
  rfl
 one:=by
  intro c l x h v hv
  obtain rfl:=h
  simp only [fd,ee,jz] at hv
  rcases hv with rfl | rfl | rfl
  ·rfl
  ·rfl
  ·rfl
 mono:=fun _ h=>h
structure ab where
 w:Int
 room:Int
 out:List (List Int)
 line:List Int
def iS (G G':Gm):Prop:=∀g k,G g k≠ []→G' g k=G g k
structure Sto where
 fitline_breaker:List ab
def Sto.set_fitline_breaker (s:Sto) (k:Nat) (x:ab):Option Sto:=if k < s.fitline_breaker.length then some { s with fitline_breaker:=s.fitline_breaker.set k x} else none
def Sto.add_fitline_breaker (s:Sto) (x:ab):Sto:={ s with fitline_breaker:=s.fitline_breaker++ [x]}
def aD (c:Cx) (t:Option Nat) (E:List En) (x:ab):Prop:=∃(b:Nat) (y1:Value) (u1:List Value) (y3:Value) (u3:List Value),t=some b∧E= [⟨.pointer (some ⟨b,0,none⟩),62,[.int .i64 x.w,.int .i64 x.room,y1,y3],0⟩,es false (RL (RI .i32)) y1 22 u1 x.out,es false (RI .i32) y3 21 u3 x.line]∧OA (RL (RI .i32)) c y1 u1 x.out∧OA (RI .i32) c y3 u3 x.line
theorem aD.lw {c c':Cx} (k:c.lw c') (b:Nat) (E:List En) (x:ab):aD c (some b) E x→aD c' (some b) E x:=by
 rintro ⟨b,y1,u1,y3,u3,e1,e2,h0,h1⟩;exact ⟨b,y1,u1,y3,u3,e1,e2,h0.lw k,h1.lw k⟩
theorem aD.no {c:Cx} (E:List En) (x:ab):¬aD c none E x:=by
 rintro ⟨b,y1,u1,y3,u3,e1,_⟩;cases e1
structure Rel (c:Cx) (s:Sto) (G:Gm):Prop where
 fitline_breaker:Rl aD 0 c G s.fitline_breaker
theorem Rel.lw {c c':Cx} {s:Sto} {G:Gm} (h:Rel c s G) (k:c.lw c'):Rel c' s G:=
 ⟨h.fitline_breaker.mono (aD.lw k) aD.no k⟩
theorem Rel.mono {c c':Cx} {s:Sto} {G:Gm} (h:Rel c s G) (k:c.le c'):Rel c' s G:=h.lw k.lw
theorem Rel.m {c c':Cx} {s:Sto} {G:Gm} (h:Rel c s G) (k:c.le c':=by repeat (first | assumption | refine Cx.le.trans ?_ (by assumption))):Rel c' s G:=h.mono k
theorem Rel.open_fitline_breaker {c:Cx} {s:Sto} {G:Gm} {k b:Nat} {x:ab} (R:Rel c s G) (hx:s.fitline_breaker[k]? = some x) (ht:c.t 0 k=some b):∃(y1:Value) (u1:List Value) (y3:Value) (u3:List Value),G 0 k= [⟨.pointer (some ⟨b,0,none⟩),62,[.int .i64 x.w,.int .i64 x.room,y1,y3],0⟩,es false (RL (RI .i32)) y1 22 u1 x.out,es false (RI .i32) y3 21 u3 x.line]∧OA (RL (RI .i32)) c y1 u1 x.out∧OA (RI .i32) c y3 u3 x.line:=by
 obtain ⟨b',y1,u1,y3,u3,e1,e2,h0,h1⟩:=R.fitline_breaker.ob k x hx;rw [ht] at e1;cases e1;exact ⟨y1,u1,y3,u3,e2,h0,h1⟩
theorem Rel.put_fitline_breaker {c:Cx} {s s':Sto} {G:Gm} {F:List En} {k:Nat} {E':List En} {x':ab} (O:Own c (ca G 0 k E') F) (R:Rel c s G) (h:s.set_fitline_breaker k x'=some s') (hY:aD c (c.t 0 k) E' x'):
  ∃G',Own c G' F∧Rel c s' G'∧G' 0 k=E'∧∀G0,iS G0 G→G0 0 k= []→iS G0 G':=by
 unfold Sto.set_fitline_breaker at h;split at h
 ·rename_i hk
  cases h;refine ⟨_,O,⟨R.fitline_breaker.set hk hY⟩,a9 _ _ _ _,fun G0 h1 h2 g' k' h3=>?_⟩;rw [cz (by rintro ⟨rfl,rfl⟩; exact h3 h2)];exact h1 g' k' h3
 ·cases h
theorem Rel.new_fitline_breaker {c:Cx} {s:Sto} {G:Gm} {F E:List En} {x:ab} {b:Nat} (O:Own c G (E++F)) (R:Rel c s G) (hY:∀c',c.le c'→aD c' (some b) E x):
  ∃c' G',(c'.w=c.w∧c'.A=c.A)∧c.le c'∧c'.t 0 s.fitline_breaker.length=some b∧Own c' G' F∧Rel c' (s.add_fitline_breaker x) G'∧G' 0 s.fitline_breaker.length=E∧G 0 s.fitline_breaker.length= []∧iS G G':=by
 have hE:=R.fitline_breaker.no _ (ak _);have hne:E≠ []:=by
  obtain ⟨_,_,_,_,_,_,rfl,_⟩:=hY c (Cx.le.refl c);simp
 obtain ⟨c',hw,hle,ht,O'⟩:=Own.newObj (b:=b) O hE hne;have R':=R.mono hle;refine ⟨c',_,hw,hle,ht,O',⟨R'.fitline_breaker.new (by rw [ht]; exact hY c' hle)⟩,a9 _ _ _ _,hE,fun g' k' h3=>?_⟩;exact cz (by rintro ⟨rfl,rfl⟩; exact h3 hE)
end Go.Proofs.Ytmncdniojmigeaa
namespace Go.Proofs.Ytmncdniojmigeaa
open Go Go.Lt
set_option maxRecDepth 10000
set_option linter.unusedVariables false
attribute [local irreducible] W WL AC
def cc (p0:List Int):Option (List Int):=app [] p0
abbrev dR:= @Try.underlying21
abbrev cC:= @Try.underlying22
abbrev u_3:= @Try.underlying3
abbrev gQ:= @Try.underlying36
abbrev u_4:= @Try.underlying4
abbrev im:= @Try.underlying40
abbrev b8:= @Try.underlying72
abbrev fB:= @Try.underlying76
theorem et {c0:Cx} {G:Gm} {F:List En} {e0:En} {b j n:Nat} {p0:List Int} (O0:Own c0 G (e0 :: F)) (hb:blk e0.v=some b) (hn:p0.length=n) (hv:∀m u,(p0.map (.int .i32))[m]? = some u→e0.vs[j+m]? = some u) {r:List Int} (H:cc p0=some r):
  Calls Try.prog 98 #[.slice (some ⟨b,j,none⟩) n 16] c0.w (aR c0 fun c v=>∃y1:Value,∃y2:List Value,Own c G (es true (RI .i32) y1 21 y2 r :: e0 :: F)∧v=y1∧OA (RI .i32) c y1 y2 r):=by
 unfold cc at H
 subst hn
 refine enter (l:=[.slice (some ⟨b,j,none⟩) p0.length 16]) Try.func98 rfl rfl rfl ?_
 refine W.seq ?_
 refine W.region ?_
 refine WL.val0 (v:= .slice none 0 0) rfl (by kernel_rfl) ?_
 refine WL.nil ?_
 refine nrm ?_
 refine W.seq ?_
 refine W.seq ?_
 refine W.region ?_
 refine WL.val0 (v:= .slice (some ⟨b,j,none⟩) p0.length 16) rfl (by kernel_rfl) ?_
 refine WL.val0 (v:= .bool false) rfl (by kernel_rfl) ?_
 refine WL.nil ?_
 refine nrm ?_
 refine W.cond (t:=false) (by kernel_rfl) (fun h=>by cases h) (fun _=>?_)
 refine W.skip ?_
 refine nrm ?_
 refine W.seq ?_
 refine W.region ?_
 refine WL.mem rfl (Own.sl (R:=RI .i32) (E:=21) (ls:=[]) (vs:=[]) (xs:=([]:List Int)) true O0 (bW _) rfl trivial (by kernel_rfl) (by kernel_rfl)) ?_
 rintro v5 c1 l1 ⟨u1,O1,a1⟩
 refine WL.val0 (v:= .slice (some ⟨b,j,none⟩) p0.length 16) rfl (by kernel_rfl) ?_
 have hon:=O1.on 1 rfl
 refine WL.mem rfl (Own.appSrc (R:=RI .i32) (nw:=p0.map (.int .i32)) (ua:=some ⟨b,j,none⟩) (ucap:=16) (z:= .int .i32 0) (by_:=4) (ty:=22) 0 O1 rfl a1 (by rw [dB]; exact (jN _).symm) (fun _=>⟨b,j,rfl,fun m u hu=>(hon.cell hb (j+m)).trans (hv m u hu)⟩) (fun w hw=>by
  obtain ⟨x,_,rfl⟩:=List.mem_map.1 hw
  rfl) (fun i x hx=>by
  show ((p0.map (Value.int .i32)).drop (i * 1)).take 1= [.int .i32 x]
  have hlt:=(List.getElem?_eq_some_iff.1 hx).1
  have he:=(List.getElem?_eq_some_iff.1 hx).2
  rw [jN,List.drop_eq_getElem_cons (by rw [dB]; exact hlt),List.take_succ_cons,ig,kn,he]) H Try.underlying22 (by kernel_rfl) rfl (by kernel_rfl) (by kernel_rfl)) ?_
 rintro v6 c2 l2 ⟨u2,O2,a2⟩
 refine WL.val0 (v:=v6) rfl (by kernel_rfl) ?_
 refine WL.nil ?_
 refine nrm ?_
 refine W.ret ?_
 exact jt (v:=v6) rfl (by kernel_rfl) ⟨_,c2,rfl,rfl,l1.trans l2,_,_,O2,rfl,a2⟩
end Go.Proofs.Ytmncdniojmigeaa
namespace Go.Lt
set_option linter.unusedVariables false
def isC:Obj→Bool
  | .cells _ _ _=>true
  | _=>false
section
variable {P:Program} {n:Nat} {df:List Deferred} {Q:List Deferred→Exit→(Nat→Value)→World→Prop} {e:Nat→Value} {w:World} {a b:Code}
def WR (P:Program) (n:Nat) (c:Code) (Q:List Deferred→Exit→(Nat→Value)→World→Prop) (df:List Deferred) (e:Nat→Value) (w:World):Prop:=
  c.wpIn (fen none) 0 P (fun x a w=>jq x∧∃e d,a=act ⟨n,d,none⟩ e∧Q d x e w) (act ⟨n,df,none⟩ e) w
theorem WR.of (h:W P ⟨n,df,none⟩ a (Q df) e w):WR P n a Q df e w:=cr h fun x a w ⟨ht,e,ha,hq⟩=>⟨ht,e,df,ha,hq⟩
theorem WR.seq (h:WR P n a (fun d=>dF (fun e w=>WR P n b Q d e w) (Q d)) df e w):WR P n (a.seq b) Q df e w:=
  wpIn_seq (cr h fun x a' w' ⟨ht,e',d,ha,hQ⟩=>by
    subst ha
    cases x with
    | normal=>exact hQ
    | _=>exact ⟨ht,e',d,rfl,hQ⟩)
theorem WR.block {id:Nat} (h:WR P n a (fun d=>co id (Q d)) df e w):WR P n (.block id a) Q df e w:=
  wpIn_block (cr h fun x a' w' ⟨ht,e',d,ha,hQ⟩=>by
    subst ha
    cases x with
    | exit i=>
      simp only [Exit.inBlock];by_cases hi:i=id
      · subst hi
        rw [ac rfl];exact ⟨trivial,e',d,rfl,by simpa [co] using hQ⟩
      · rw [af hi]
        have:Nat.beq i id=false:=by
          cases hb:Nat.beq i id with
          | false=>rfl
          | true=>exact absurd (cZ hb) hi
        exact ⟨trivial,e',d,rfl,by simpa [co,this] using hQ⟩
    | _=>exact ⟨ht,e',d,rfl,hQ⟩)
def iX (P:Program) (fn:Func) (n:Nat) (R:Ending→World→Prop) (df:List Deferred):Exit→(Nat→Value)→World→Prop
  | .normal,e,w=>LeavesInM (fen none) 0 P fn (act ⟨n,[],none⟩ e).tmps R df .returning w
  | .ret,e,w=>LeavesInM (fen none) 0 P fn (act ⟨n,[],none⟩ e).tmps R df .returning w
  | _,_,_=>False
theorem enR {f:FuncId} {fn:Func} {code:Code} {l:List Value} {R:Ending→World→Prop} (hf:P.funcs[f]? = some fn) (hb:fn.body=some code) (hn:fn.ntmps=n)
    (h:WR P n code (iX P fn n R) [] (ar l) w) (hl:Nat.ble l.length n=true:=by rfl):Calls P f l.toArray w R:=by
  subst hn;have hl:=ai hl;refine (je (n:=0)).1 (callsIn_of_wp_marks hf hb trivial ?_);rw [fZ,←ic _ l hl];refine cr h ?_;rintro x a w' ⟨_,e',d,rfl,hq⟩
  cases x <;> first | exact hq | exact hq.elim
def gA (D:Nat):Deferred:={ target:= .collected D,args:= #[]}
theorem i9 {fn:Func} {tm:Array Value} {R:Ending→World→Prop} {D:Nat} {v:Value} (hD:w.heap[D]? = some (.deferred (some [])))
    (hr:(results fn tm).run P (w.putObj D (.deferred none))= .ok v (w.putObj D (.deferred none))) (hR:R (.returned v) (w.putObj D (.deferred none))):LeavesInM (fen none) 0 P fn tm R [gA D] .returning w:=
  ⟨by simp,.inl ⟨D,_,rfl,run_takeDeferred hD,v,hr,hR⟩⟩
def iw (fn:FuncId) (tm:Array Value) (ps:Array Tmp) (assign body:Code) (D:Nat) (st:LoopState) (pe:Option Code):Loop:={ state:=st,pending:=pe,fn,tmps:=tm,params:=ps,assign,body,defers:=D}
theorem WR.range {g:Operand} {ps:Array Tmp} {assign body:Code} {gf:Nat} {lb:Array Value} (hg:ev n e g= .func (.func gf) #[] lb) (eg:∀args w,(callFunc gf args).run P w= .ok (.enter gf args) w)
    (h:∀(fn:FuncId) (rc:LoopState→Option Code→Loop),rc=iw fn (act ⟨n,df,none⟩ e).tmps ps assign body w.heap.size→Calls P gf (#[.func (.yield (w.heap.size+1)) #[] #[]]++lb) ((w.alloc (.deferred (some []))).alloc (.loop (rc .ready none)))
      fun x w3=>∃v,x= .returned v∧
        ((w3.heap[w.heap.size+1]? = some (.loop (rc .ready none))∧Q (gA w.heap.size :: df) .normal e (w3.putObj (w.heap.size+1) (.loop (rc .exhausted none))))∨
         ∃c,w3.heap[w.heap.size+1]? = some (.loop (rc .done (some c)))∧WR P n c Q (gA w.heap.size :: df) e (w3.putObj (w.heap.size+1) (.loop (rc .exhausted (some c)))))):
    WR P n (.rangeFunc g ps assign body) Q df e w:=by
  refine wpIn_rangeFunc (fun fn _=>?_);have hg':(act ⟨n,df,none⟩ e).eval g= .func (.func gf) #[] lb:=by rw [cp]; exact hg
  have h:=h fn _ rfl;have h1:=run_enterLoop_outer (P:=P) (w:=w) fn (act ⟨n,df,none⟩ e).tmps ps assign body;have h2:∀W:World,(resolve (act ⟨n,df,none⟩ e).eval (rangeCall g (w.heap.size+1)) 0).run P W= .ok { target:= .fn (.func gf) lb,args:= #[.func (.yield (w.heap.size+1)) #[] #[]]} W:=fun W=>by
    simp only [resolve,hg'];simp [go_sem]
  have h3:∀W:World,(invoke (.fn (.func gf) lb) #[.func (.yield (w.heap.size+1)) #[] #[]]).run P W= .ok (.enter gf (#[.func (.yield (w.heap.size+1)) #[] #[]]++lb)) W:=fun W=>by
    simp [invoke,go_sem,eg]
  refine Exists.intro (w.heap.size+1) (Exists.intro [gA w.heap.size] (Exists.intro _ (Exists.intro { target:= .fn (.func gf) lb,args:= #[.func (.yield (w.heap.size+1)) #[] #[]]} (Exists.intro _ (Exists.intro gf (Exists.intro (#[.func (.yield (w.heap.size+1)) #[] #[]]++lb) (Exists.intro _ ⟨h1,h2 _,fun _ _=>trivial,h3 _,fun hd=>(by cases hd),?_⟩)))))));refine eo (h.mono fun x w3 hx=>?_);obtain ⟨v,rfl,hv⟩:=hx;rcases hv with ⟨k1,k2⟩ | ⟨c,k1,k2⟩
  · exact ⟨none,_,run_endLoop k1 (by simp [iw]),trivial,e,gA w.heap.size :: df,rfl,k2⟩
  · exact ⟨some c,_,run_endLoop k1 (by simp [iw]),k2⟩
end
theorem WL.round {P:Program} {ops:Array Oper} {n:Fr} {Q:Exit→(Nat→Value)→World→Prop} {rest:List Oper} {e:Nat→Value} {o:Oper} {w:World} {l:Nat} {args:Array Value} (hg:o.guard=none)
    (hr:(execOp (ev n e) o).run P w=(Instr.yield l args).run P w) (hy:YieldAt (fen n.ro) 0 P l args w fun x w'=>∃v,x= .returned v∧WL P ops n Q rest (upO e o.dst v) w'):WL P ops n Q (o :: rest) e w:=by
  obtain ⟨fn,tm,assign,body,hy1,hR⟩:=hy;refine eF hg fun K hK=>⟨fun _ _=>trivial,?_⟩;rw [cp,dG (hr.trans hy1) (by simp),Oper.uponIn_round];refine ⟨fun h=>(by cases h),hR.mono ?_⟩;rintro x w' ⟨v,rfl,h⟩;simp only [dz];exact hK _ _ h
theorem ym {F:Fence} {m:Nat} {P:Program} {l:Nat} {args:Array Value} {w:World} {R R':Ending→World→Prop} (h:YieldAt F m P l args w R) (hr:∀x w',R x w'→R' x w'):YieldAt F m P l args w R':=by
  obtain ⟨fn,tm,assign,body,hy,hR⟩:=h;exact ⟨fn,tm,assign,body,hy,hR.mono hr⟩
def rdQ (l:Nat) (r:LoopState→Option Code→Loop) (R:Ending→World→Prop):Exit→(Nat→Value)→World→Prop
  | .normal,_,w=>w.heap[l]? = some (.loop (r .busy none))∧R (.returned (.bool true)) (w.putObj l (.loop (r .ready none)))
  | .ret,_,w=>w.heap[l]? = some (.loop (r .busy none))∧R (.returned (.bool false)) (w.putObj l (.loop (r .done (some .ret))))
  | .exit i,_,w=>w.heap[l]? = some (.loop (r .busy none))∧R (.returned (.bool false)) (w.putObj l (.loop (r .done (some (.exit i)))))
  | _,_,_=>False
theorem gV (n:Fr) (e:Nat→Value) (d:Nat) (v:Value):(act n e).tmps.setIfInBounds d v=(act n (up e d v)).tmps:=hU Act.tmps (dz n e (some d) v)
theorem iW (n:Nat) (df:List Deferred) (r0:Option Nat) (l:Nat) (e:Nat→Value) (p1 p2:Nat) (a1 a2:Value):
    ((#[p1,p2]:Array Tmp).zip #[a1,a2]).foldl (fun t (p,v)=>t.setIfInBounds p v) (act ⟨n,df,r0⟩ e).tmps=(act ⟨n,[],some l⟩ (up (up e p1 a1) p2 a2)).tmps:=by
  have hz:((#[p1,p2]:Array Tmp).zip #[a1,a2])= #[(p1,a1),(p2,a2)]:=by simp
  rw [hz,←Array.foldl_toList];show ((act ⟨n,df,r0⟩ e).tmps.setIfInBounds p1 a1).setIfInBounds p2 a2=_;rw [gV,gV];rfl
theorem fz {P:Program} {n:Nat} {r0:Option Nat} {w:World} {l:Nat} {fn:FuncId} {tm:Array Value} {ps:Array Tmp} {assign body:Code} {D:Nat} {rc:LoopState→Option Code→Loop} (hrc:rc=iw fn tm ps assign body D) {args:Array Value} {R:Ending→World→Prop} {e1:Nat→Value}
    (hl:w.heap[l]? = some (.loop (rc .ready none))) (hs:args.size=ps.size) (he:(ps.zip args).foldl (fun t (p,v)=>t.setIfInBounds p v) tm=(act ⟨n,[],some l⟩ e1).tmps)
    (h:W P ⟨n,[],some l⟩ assign (dF (fun e2 w1=>w1.heap[l]? = some (.loop (rc .ready none))∧
      W P ⟨n,[],some l⟩ body (rdQ l rc R) e2 (w1.putObj l (.loop (rc .busy none)))) (fun _ _ _=>False)) e1 w):YieldAt (fen r0) 0 P l args w R:=by
  subst hrc;refine ⟨fn,_,assign,body,run_yield hl hs,roundIn_of_wpIn trivial ?_⟩;have hz:(fen r0).inRound l=fen (some l):=rfl;rw [hz];have ha:({ tmps:=(ps.zip args).foldl (fun t (p,v)=>t.setIfInBounds p v) tm,defers:=[]}:Act)=act ⟨n,[],some l⟩ e1:=by rw [he]; rfl
  show assign.wpIn (fen (some l)) 0 P _ ({ tmps:=(ps.zip args).foldl (fun t (p,v)=>t.setIfInBounds p v) tm,defers:=[]}:Act) w;rw [ha];refine cr h ?_;rintro x a w1 ⟨ht,e2,rfl,hq⟩
  cases x with
  | normal=>
    obtain ⟨h1,h2⟩:=hq;refine ⟨_,run_beginRound h1 rfl,cr h2 ?_⟩;rintro y a' w2 ⟨_,e3,rfl,hy⟩
    cases y with
    | normal=>exact ⟨_,_,run_endRound none hy.1,hy.2⟩
    | ret=>exact ⟨_,_,run_endRound (some .ret) hy.1,hy.2⟩
    | exit i=>exact ⟨_,_,run_endRound (some (.exit i)) hy.1,hy.2⟩
    | _=>exact hy.elim
  | _=>exact hq.elim
structure Rec (c:Cx) (l D:Nat) (r:Loop):Prop where
  rc:c.w.heap[l]? = some (.loop r)
  nl:∀o,¬c.A l o
  def_:c.w.heap[D]? = some (.deferred (some []))
  nD:∀o,¬c.A D o
theorem Rec.mono {c c':Cx} {l D:Nat} {r:Loop} (h:Rec c l D r) (k:c.le c'):Rec c' l D r:=by
  have hl:=(Array.getElem?_eq_some_iff.1 h.rc).1;have hD:=(Array.getElem?_eq_some_iff.1 h.def_).1;exact ⟨(k.block l hl h.nl).trans h.rc,fun o=>(k.cell l o hl (h.nl o)).2,(k.block D hD h.nD).trans h.def_,fun o=>(k.cell D o hD (h.nD o)).2⟩
def Cx.turn (c:Cx) (l:Nat) (o:Obj):Cx:=⟨c.w.putObj l o,c.A,c.t⟩
theorem Cx.turn_lw {c:Cx} {l:Nat} {o o':Obj} (h:c.w.heap[l]? = some o) (ho:isC o=false) (ho':isC o'=false):c.lw (c.turn l o'):=by
  have hlt:=(Array.getElem?_eq_some_iff.1 h).1;have same:∀k,k≠l→(c.w.putObj l o').heap[k]? = c.w.heap[k]? :=fun k hk=>World.putObj_heap_other hk;have at_l:(c.w.putObj l o').heap[l]? = some o':=World.putObj_heap_same hlt;refine ⟨rfl,rfl,by simp [Cx.turn,World.putObj],fun k q hk hA=>⟨?_,hA⟩,fun k vs T f hk _=>?_,fun a _ _=>?_,fun _ _ _ h=>h⟩
  · show (c.w.putObj l o').cell? _=_
    by_cases e:k=l
    · subst e
      unfold World.cell?;rw [at_l,h]
      cases o <;> cases o' <;> first | rfl | (simp [isC] at ho ho')
    · exact cq (w:=c.w) (a:=⟨k,q,none⟩) (same k e)
  · refine same k fun e=>?_
    subst e;rw [h] at hk;cases hk;simp [isC] at ho
  · show (c.w.putObj l o').frozen? a=_
    by_cases e:a.block=l
    · unfold World.frozen?
      rw [e,at_l,h]
      cases o <;> cases o' <;> first | rfl | (simp [isC] at ho ho')
    · unfold World.frozen?
      rw [same _ e]
theorem Own.turn {c:Cx} {G:Gm} {F:List En} {l:Nat} {o o':Obj} (O:Own c G F) (h:c.w.heap[l]? = some o) (ho:isC o=false):Own (c.turn l o') G F:=
  ⟨⟨fun i e he b hb=>by
    have h1:=O.m.1 i e he b hb;refine ⟨?_,h1.2⟩;have hne:b≠l:=fun e2=>by
      subst e2;rw [h] at h1;have:=h1.1;cases this;simp [isC] at ho
    exact (World.putObj_heap_other hne).trans h1.1,O.m.2⟩,O.t0⟩
theorem Own.front {c:Cx} {G:Gm} {Fm F:List En} {e:En} (O:Own c G (Fm++e :: F)):Own c G (e :: (Fm++F)):=
  ⟨dg.re O.m (fun k=>match k with | .inl 0=> .inl Fm.length | .inl (k+1)=>if k < Fm.length then .inl k else .inl (k+1) | .inr x=> .inr x) (fun k e' h=>by
    match k,h with
    | .inl 0,h=>simpa [at_] using h
    | .inl (k+1),h=>
      simp only [at_,br] at h;by_cases hk:k < Fm.length
      · simp only [ac hk,at_]; rw [ah hk] at h⊢; exact h
      · simp only [af hk,at_]
        rw [aq (by omega)] at h⊢;rw [show k+1 - Fm.length=(k - Fm.length)+1 by omega,br]; exact h
    | .inr x,h=>exact h) (fun k k' e1 e2 h1 h2 he=>by
    match k,k' with
    | .inl 0,.inl 0=>rfl
    | .inl 0,.inl (j+1)=>simp only at he; split at he <;> (simp at he; try omega)
    | .inl (i+1),.inl 0=>simp only at he; split at he <;> (simp at he; try omega)
    | .inl (i+1),.inl (j+1)=>simp only at he; split at he <;> split at he <;> (simp at he; try omega) <;> (first | (subst he; rfl) | omega)
    | .inl 0,.inr x=>simp at he
    | .inr x,.inl 0=>simp at he
    | .inl (i+1),.inr x=>simp only at he; split at he <;> simp at he
    | .inr x,.inl (j+1)=>simp only at he; split at he <;> simp at he
    | .inr x,.inr y=>simpa using he),O.t0⟩
theorem Own.behind {c:Cx} {G:Gm} {Fm F:List En} {e:En} (O:Own c G (e :: (Fm++F))):Own c G (Fm++e :: F):=
  ⟨dg.re O.m (fun k=>match k with | .inl k=>if k < Fm.length then .inl (k+1) else if k=Fm.length then .inl 0 else .inl k | .inr x=> .inr x) (fun k e' h=>by
    match k,h with
    | .inl k,h=>
      simp only [at_] at h;by_cases hk:k < Fm.length
      · simp only [ac hk,at_,br]; rw [ah hk] at h⊢; exact h
      · by_cases hk2:k=Fm.length
        · subst hk2; simpa [at_] using h
        · simp only [af hk,af hk2,at_]
          rw [aq (by omega)] at h;rw [show k - Fm.length=(k - 1 - Fm.length)+1 by omega,br] at h;rw [show k=(k - 1)+1 by omega,br,aq (by omega)];exact h
    | .inr x,h=>exact h) (fun k k' e1 e2 h1 h2 he=>by
    match k,k' with
    | .inl i,.inl j=>
      simp only at he;split at he <;> split at he <;> (try split at he) <;> (try split at he) <;> (simp at he; try omega) <;> (first | (subst he; rfl) | (congr 1; omega) | omega)
    | .inl i,.inr x=>simp only at he; split at he <;> (try split at he) <;> simp at he
    | .inr x,.inl j=>simp only at he; split at he <;> (try split at he) <;> simp at he
    | .inr x,.inr y=>simpa using he),O.t0⟩
def Bod {σ:Type} (J:σ→Cx→List En→Prop):Prop:=
  ∀s c F,J s c F→∃G Fm,Own c G (Fm++F)∧∀c' F',c.le c'→Own c' G (Fm++F')→J s c' F'
theorem Bod.new {σ:Type} {J:σ→Cx→List En→Prop} (hJ:Bod J) {s:σ} {c:Cx} {F:List En} (h:J s c F):∃G Fx,Own c G Fx∧∀c' e,c.le c'→Own c' G (e :: Fx)→J s c' (e :: F):=by
  obtain ⟨G,Fm,O,k⟩:=hJ s c F h;exact ⟨G,_,O,fun c' e hc O'=>k c' _ hc O'.behind⟩
theorem Bod.op {σ:Type} {J:σ→Cx→List En→Prop} (hJ:Bod J) {s:σ} {c:Cx} {F:List En} {e:En} (h:J s c (e :: F)):∃G Fx,Own c G (e :: Fx)∧∀c' e',c.le c'→Own c' G (e' :: Fx)→J s c' (e' :: F):=by
  obtain ⟨G,Fm,O,k⟩:=hJ s c _ h;exact ⟨G,_,O.front,fun c' e' hc O'=>k c' _ hc O'.behind⟩
theorem Bod.drop {σ:Type} {J:σ→Cx→List En→Prop} (hJ:Bod J) {s:σ} {c:Cx} {F:List En} {e:En} (h:J s c (e :: F)):J s c F:=by
  obtain ⟨G,Fm,O,k⟩:=hJ s c _ h;exact k c _ (Cx.le.refl c) O.front.tail
abbrev JnW (c0:Cx) (q:Cx→List (Nat×Value)→Prop):(Nat→Value)→World→Prop:=fun e w=>∃c e0 l,w=c.w∧c0.lw c∧e=ups e0 l∧q c l
theorem jnW {c0:Cx} {q:Cx→List (Nat×Value)→Prop} {e:Nat→Value} {l:List (Nat×Value)} (c:Cx) (h:q c l) (k:c0.lw c) (u:l.map (fun x=>e x.1)=l.map (fun x=>x.2):=by kernel_rfl):JnW c0 q e c.w:=⟨c,e,l,rfl,k,us u,h⟩
def j8 {σ:Type} (P:Program) (l:Nat) (J:σ→Cx→List En→Prop) (args:Array Value) (c:Cx) (F:List En) (s':σ) (b:Bool):Prop:=
  YieldAt (fen none) 0 P l args c.w fun x w'=>∃c',w'=c'.w∧c.lw c'∧x= .returned (.bool b)∧J s' c' F
theorem fE {α:Type} {R:Rp α} {c:Cx} {P:Program} {v:Value} {xs zs:List α} {T E:TypeId} {i j:Int} {k k' k2:IntKind} (hT:P.underlying T=some (.slice E)) (hE:(P.info? E).map (·.size)=some R.size) (h:Sl R c v xs) (hz:slc xs i j=some zs):
    ∃v',(∀w,(Instr.sliceAt T v (some (.int k i)) (some (.int k' j)) (some (.int k2 j))).run P w= .ok v' w)∧Sl R c v' zs:=by
  obtain ⟨h1,h2,h3,rfl⟩:=eG hz;obtain ⟨ti,hti,hsz⟩:=Option.map_eq_some_iff.1 hE;have hh:=h;obtain ⟨a,cap,rfl,h4,h5,h6⟩:=h;have hcut:=Sl.cut (l:=i.toNat) (h:=j.toNat) (m:=j.toNat) hh (by omega) (by omega) (by omega) (by omega);rw [show (j - i).toNat=j.toNat - i.toNat by omega];refine ⟨_,fun w=>?_,hcut⟩;have e1:0≤i∧i≤j:=⟨h1,h2⟩;have e2:0≤j∧j≤(cap:Int):=⟨by omega,by omega⟩;have e4:0≤j∧j≤j:=⟨by omega,jQ _⟩;have e3:((j.toNat:Nat):Int)=j:=by omega
  simp [Instr.sliceAt,aH hT,Instr.slice,Instr.sliceBounds,Instr.sliceBound,asIntOf,e1,e2,e3,e4,sizeOf,typeInfo,hti,hsz]
theorem WR.sr {P:Program} {n:Nat} {df:List Deferred} {Q:List Deferred→Exit→(Nat→Value)→World→Prop} {e:Nat→Value} {w:World} {b:Code} {id:Nat} {l:List Oper}
    (h:WL P l.toArray ⟨n,df,none⟩ (dF (fun e w=>WR P n b Q df e w) (Q df)) l e w):WR P n ((Code.region id l.toArray false).seq b) Q df e w:=WR.seq (WR.of (W.region h))
theorem Cx.loop (c:Cx) (r:Loop):∃c':Cx,c'.w=(c.w.alloc (.deferred (some []))).alloc (.loop r)∧c.but (fun _=>False) c'∧Rec c' (c.w.heap.size+1) c.w.heap.size r:=by
  have hb:∀k,k < c.w.heap.size→((c.w.alloc (.deferred (some []))).alloc (.loop r)).heap[k]? = c.w.heap[k]? :=fun k hk=>
    (bq _ _ _ (by simp; omega)).trans (bq _ _ _ hk)
  refine ⟨⟨(c.w.alloc (.deferred (some []))).alloc (.loop r),fun k o=>k < c.w.heap.size∧c.A k o,c.t⟩,rfl,⟨⟨rfl,rfl,by simp; omega,fun k o hk hA=>⟨cq (w:=c.w) (a:=⟨k,o,none⟩) (hb k hk),fun h=>hA h.2⟩,fun k hk _=>hb k hk,fun a ha _=>?_,fun _ _ _ h=>h⟩,rfl,fun k hk _=>⟨hb k hk,fun o=>⟨fun h=>h.2,fun h=>⟨hk,h⟩⟩⟩⟩,?_,?_,?_,?_⟩
  · unfold World.frozen?
    rw [hb _ ha]
  · have:=World.alloc_heap_new (c.w.alloc (.deferred (some []))) (.loop r)
    rwa [World.size_alloc] at this
  · intro o h; omega
  · exact (bq _ _ _ (by simp)).trans (World.alloc_heap_new c.w _)
  · intro o h; omega
theorem Cx.le.turn {cb c:Cx} (h:cb.le c) {l:Nat} {o o':Obj} (hl:cb.w.heap.size≤l) (hc:c.w.heap[l]? = some o) (ho:isC o=false) (ho':isC o'=false):cb.le (c.turn l o'):=by
  have k:=h.lw.trans (Cx.turn_lw hc ho ho');refine ⟨k.os,k.output,k.size,k.cell,fun i hi hA=>?_,k.frz,k.t⟩;exact (World.putObj_heap_other (by omega)).trans (h.block i hi hA)
theorem Rec.turn {c:Cx} {l D:Nat} {r:Loop} (h:Rec c l D r) (r':Loop):Rec (c.turn l (.loop r')) l D r':=by
  have hlt:=(Array.getElem?_eq_some_iff.1 h.rc).1;have hne:D≠l:=fun e=>by
    have h1:=h.rc;rw [←e,h.def_] at h1;cases h1
  exact ⟨World.putObj_heap_same hlt,h.nl,(World.putObj_heap_other hne).trans h.def_,h.nD⟩
theorem iU {P:Program} {fn:Func} {n:Nat} {R:Ending→World→Prop} {c:Cx} {e:Nat→Value} {D t:Nat} {v:Value} (hD:c.w.heap[D]? = some (.deferred (some []))) (h:R (.returned v) (c.turn D (.deferred none)).w)
    (hr:fn.results= #[.tmp t]:=by rfl) (hv:ev n e (.tmp t)=v:=by kernel_rfl):iX P fn n R [gA D] .ret e c.w:=by
  refine i9 hD (results_tmp hr _ _ _) ?_;rw [b7];show R (.returned (ev n e (.tmp t))) _;rw [hv];exact h
section
variable {P:Program} {α:Type} {R:Rp α} {c:Cx} {G:Gm} {F:List En}
theorem gi {E t ty:TypeId} {v:Value} {vs:List Value} {xs ys zs:List α} {z:Value} {by_:Nat} {m:Bool} {ua:Option Addr} {ucap:Nat} {nw:List Value} (k:Nat) (O:Own c G F) (hk:F[k]? = some (es m R v E vs xs)) (h:OA R c v vs xs)
    (n1:nw.length=ys.length * R.size) (n2:ys≠ []→∃ub uo,ua=some ⟨ub,uo,none⟩∧∀j w,nw[j]? = some w→c.w.cell? ⟨ub,uo+j,none⟩=some w) (n3:∀w∈nw,w.oneCell'=true) (n4:∀i x,ys[i]? = some x→R.cells c ((nw.drop (i * R.size)).take R.size) x) (happ:app xs ys=some zs)
    (hT:P.underlying t=some (.slice E)) (hi:(P.info? E).map (fun i=>(i.zero,i.size,i.bytes))=some (some z,R.size,by_)) (hz:z.cells.size=R.size) (hby:Nat.ble by_ 128=true):
    ∃v' c',(Builtin.append_ #[t,t] ty #[v,.slice ua ys.length ucap]).run P c.w= .ok v' c'.w∧c.le c'∧(∃vs',Own c' G (F.set k (es m R v E vs' xs))∧OA R c' v vs' xs)∧∃a q,v'= .slice a zs.length q:=by
  have hby:=ai hby;have hfar:xs.length+ys.length≤far∧xs++ys=zs:=by
    unfold app at happ;split at happ
    · exact ⟨by assumption,by simpa using happ⟩
    · cases happ
  obtain ⟨hfar,rfl⟩:=hfar;unfold far at hfar;obtain ⟨ti,hti,hzz⟩:=Option.map_eq_some_iff.1 hi;simp only [iN] at hzz;obtain ⟨hz1,hz2,hz3⟩:=hzz;have hon:=O.on k hk;have hklt:=(List.getElem?_eq_some_iff.1 hk).1;have hh:=h;have hsame:F.set k (es m R v E vs xs)=F:=by
    apply km;intro j;by_cases hj:k=j
    · subst hj; rw [a6 hklt,hk]
    · rw [bj hj]
  obtain ⟨hp,h1,h2⟩:=h;by_cases hys:ys= []
  · subst hys
    refine ⟨v,c,?_,Cx.le.refl c,⟨vs,by rw [hsame]; exact O,hh⟩,?_⟩
    · rcases h1 with ⟨rfl,rfl⟩ | ⟨g,cap,rfl,hcap,_⟩
      · cases ua <;> simp [Builtin.append_,aH hT,sizeOf,typeInfo,hti,Builtin.lenOf,Builtin.firstCells,loadCells,loadCellsFrom,storeCells]
      · cases ua <;> simp [Builtin.append_,aH hT,sizeOf,typeInfo,hti,Builtin.lenOf,Builtin.firstCells,loadCells,loadCellsFrom,storeCells,hcap]
    · rw [ep]
      rcases h1 with ⟨rfl,rfl⟩ | ⟨g,cap,rfl,hcap,_⟩ <;> exact ⟨_,_,rfl⟩
  · have hpos:0 < ys.length:=by
      rcases cM ys.length with h | h
      · exact absurd (bk h) hys
      · exact h
    obtain ⟨ub,uo,hua,n5⟩:=n2 hys;subst hua;have hcells:∀j w,nw[j]? = some w→c.w.cell? ((⟨ub,uo,none⟩:Addr).add j)=some w:=fun j w hw=>by
      rw [bH];exact n5 j w hw
    have hN:(xs++ys).length=xs.length+ys.length:=aA;have hxl:=h2.len hp;have helem:∀(c':Cx) (tail:List Value),c.le c'→AR R c' (vs.take (xs.length * R.size)++nw++tail) (xs++ys):=fun c' tail hcc i x hx=>by
      have hlt:(vs.take (xs.length * R.size)).length=xs.length * R.size:=by rw [aw]; omega
      rcases bi i xs.length with hi' | hi'
      · have hm:=dj (s:=R.size) hi'
        rw [a7,bM (by rw [hlt]; exact hm)];rw [ah hi'] at hx;have:=h2 i x hx;rw [eV,eR,show min R.size (xs.length * R.size - i * R.size)=R.size by omega];exact R.mono hcc this
      · rw [aq hi'] at hx
        have h4:=n4 _ _ hx;have hiy:=dj (s:=R.size) (List.getElem?_eq_some_iff.1 hx).1;have e:i * R.size=xs.length * R.size+(i - xs.length) * R.size:=by rw [←bu]; congr 1; omega
        have e2:(vs.take (xs.length * R.size)++(nw++tail)).drop (xs.length * R.size)=nw++tail:=by
          conv=>lhs; arg 1; rw [←hlt]
          exact eW
        rw [a7,e,←dM,e2,bM (by rw [n1]; omega)];exact R.mono hcc h4
    have hbytes:(xs.length+ys.length) * ti.bytes≤140737488355328:=by
      rw [hz3];exact cV (Nat.mul_le_mul hfar hby) (by decide)
    have fresh:∀old,old < xs.length+ys.length→
        ∃v' c',Result.ok (α:=Value) (.slice (some ⟨c.w.heap.size,0,none⟩) (xs.length+ys.length) (grownCap c.w (xs.length+ys.length) old E)) (c.w.drew.alloc (.cells ((vs.take (xs.length * R.size)).toArray++nw.toArray++Builtin.zeroCells z.cells (grownCap c.w (xs.length+ys.length) old E - (xs.length+ys.length))) E))= .ok v' c'.w∧c.le c'∧
        (∃vs',Own c' G (F.set k (es m R v E vs' xs))∧OA R c' v vs' xs)∧∃a q,v'= .slice a (xs++ys).length q:=by
      intro old ho;have hge:=grownCap_ge c.w (xs.length+ys.length) old E;have hcm:grownCap c.w (xs.length+ys.length) old E≤maxLen:=jZ c.w _ old E (by unfold maxLen; omega);have hd:=Cx.drew_le c;obtain ⟨c',e1,e2,e3,e4,e5⟩:=Cx.new ⟨c.w.drew,c.A,c.t⟩ ((vs.take (xs.length * R.size))++nw++(Builtin.zeroCells z.cells (grownCap c.w (xs.length+ys.length) old E - (xs.length+ys.length))).toList) E (cond m 0 ((xs++ys).length * R.size));have ea:((vs.take (xs.length * R.size))++nw++(Builtin.zeroCells z.cells (grownCap c.w (xs.length+ys.length) old E - (xs.length+ys.length))).toList).toArray=(vs.take (xs.length * R.size)).toArray++nw.toArray++Builtin.zeroCells z.cells (grownCap c.w (xs.length+ys.length) old E - (xs.length+ys.length)):=by
        apply kh; simp
      refine ⟨.slice (some ⟨c.w.heap.size,0,none⟩) (xs.length+ys.length) (grownCap c.w (xs.length+ys.length) old E),c',by rw [e1,ea],hd.le.trans e2.le,⟨vs,?_,hh.mono (hd.le.trans e2.le)⟩,_,_,by rw [hN]⟩;rw [hsame];exact (O.keep hd).keep e2
    rcases h1 with ⟨rfl,rfl⟩ | ⟨g,cap,rfl,hnc,hcm,hcs⟩
    · have hr:=run_append_nil (P:=P) c.w t ty E ti z hT hti hz1 ⟨ub,uo,none⟩ ys.length ucap nw (by rw [n1,hz2]) hcells hpos (by simp at hfar; omega) (by have:=hbytes; simp at this; omega)
      have:=fresh 0 (by simpa using hpos);simp only [aS,bV,fX,ig,ki,cL] at this hr⊢;rw [hr];simpa using this
    · obtain ⟨hg,hA⟩:=hon g rfl
      by_cases hroom:xs.length+ys.length≤cap
      · have hfit:xs.length * R.size+nw.length≤vs.length:=by
          rw [n1,←bu];exact cV (dt _ hroom) hcs
        have hr:=kp (P:=P) c.w t ty E ti hT hti g xs.length cap vs.toArray hg ⟨ub,uo,none⟩ ys.length ucap nw (by rw [n1,hz2]) hcells n3 hroom (by rw [hz2]; simpa using hfit);rw [hz2] at hr;simp only at hr;obtain ⟨c',e1,e2,e3,e4⟩:=Cx.row (m:=vs.take (xs.length * R.size)++nw++vs.drop (xs.length * R.size+nw.length)) hg _ hA (fun o ho=>by
          have ho:o < xs.length * R.size:=by
            cases m
            · exact ho
            · exact absurd ho (ku _)
          rw [a7,ah (by rw [aw]; omega),aV,ac ho];rfl) (cond m 0 (xs.length * R.size)) (ak _)
        refine ⟨.slice (some ⟨g,0,none⟩) (xs.length+ys.length) cap,c',by rw [hr,e1],e2.le,⟨vs.take (xs.length * R.size)++nw++vs.drop (xs.length * R.size+nw.length),Own.set O k hk e2 (fun b h=>by subst h; rfl) (fun b hb=>?_) (fun b hb=> .inl hb),hp,.inr ⟨g,cap,rfl,hnc,hcm,?_⟩,fun i x hx=>?_⟩,_,_,by rw [hN]⟩
        · simp only [es,blk,aL] at hb; subst hb; exact ⟨e3,e4⟩
        · simp only [aA,be,aw]
          omega
        · exact helem c' _ e2.le i x (by rw [ah (List.getElem?_eq_some_iff.1 hx).1]; exact hx)
      · have eK:∀j w,(vs.take (xs.length * R.size))[j]? = some w→c.w.cell? ((⟨g,0,none⟩:Addr).add j)=some w:=fun j w hw=>by
          rw [bH,bV,dU _ _ _ _ _ _ hg,aK];rw [aV] at hw;split at hw
          · exact hw
          · cases hw
        have hr:=kr (P:=P) c.w t ty E ti z hT hti hz1 ⟨g,0,none⟩ xs.length cap (vs.take (xs.length * R.size)) (by rw [aw,hz2]; omega) eK ⟨ub,uo,none⟩ ys.length ucap nw (by rw [n1,hz2]) hcells (by omega) (by omega) (growslice_fits (by omega) hbytes);rw [hr];exact fresh cap (by omega)
theorem apl (R:Rp α) (z:Value) (by_ ty:Nat) {ρ:Operand→Value} {o:Oper} {E t:TypeId} {v u:Value} {vs:List Value} {xs ys zs:List α} {m:Bool} (k:Nat) (O:Own c G F) (h:OA R c v vs xs) (hS:Sl R c u ys) (happ:app xs ys=some zs) (hT:P.underlying t=some (.slice E)) (hk:F[k]? = some (es m R v E vs xs):=by rfl)
    (hi:(P.info? E).map (fun i=>(i.zero,i.size,i.bytes))=some (some z,R.size,by_):=by kernel_rfl) (hz:z.cells.size=R.size:=by rfl) (hby:Nat.ble by_ 128=true:=by kernel_rfl) (hx:execOp ρ o=(do pure (Next.value (←Builtin.append_ #[t,t] ty #[v,u])):Sem Next):=by kernel_rfl):
    ∃v' c',(execOp ρ o).run P c.w= .ok (.value v') c'.w∧c.le c'∧(∃vs',Own c' G (F.set k (es m R v E vs' xs))∧OA R c' v vs' xs)∧∃a q,v'= .slice a zs.length q:=by
  obtain ⟨nw,n1,n2,n3,n4⟩:=hS.flat;obtain ⟨ua,ucap,rfl,hu1,hu2,hu3⟩:=hS;have n5:ys≠ []→∃ub uo,ua=some ⟨ub,uo,none⟩∧∀j w,nw[j]? = some w→c.w.cell? ⟨ub,uo+j,none⟩=some w:=fun hys=>by
    have hpos:0 < ys.length:=by
      rcases cM ys.length with h | h
      · exact absurd (bk h) hys
      · exact h
    obtain ⟨ub,uo,_,hua,_⟩:=hu3 0 ys[0] (aj hpos);subst hua;exact ⟨ub,uo,rfl,fun j w hw=>(n2 j w hw).cell⟩
  obtain ⟨v',c',h1,h2,h3,h4⟩:=gi (P:=P) (t:=t) (ty:=ty) (ucap:=ucap) k O hk h n1 n5 n3 n4 happ hT hi hz hby;exact ⟨v',c',rx hx h1,h2,h3,h4⟩
end
end Go.Lt
namespace Go.Proofs.Ytmncdniojmigeaa
open Go Go.Lt
set_option maxRecDepth 10000
set_option linter.unusedVariables false
attribute [local irreducible] W WL AC
open Try
variable {c0:Cx} {G:Gm} {F:List En} {sg:Sto} {v1 v2 v3 v4 v5 v6 v7 v8 v9 v10 v11 v12 v13 v14 v15 v16 v17 v18 v19 v20 v21 v22 v23 v24 v25 v26 v27 v28 v29 v30 v31 v32 v33 v34 v35 v36 v37 v38 v39 v40 v41 v42 v43 v44 v45 v46 v47 v48 v49 v50 v51 v52 v53 v54 v55 v56 v57 v58 v59 v60:Value}
def bZ:List (Int×Int×Int):=[(0,9,3),(10,10,2),(11,12,3),(13,13,1),(14,31,3),(127,159,3),(173,173,3),(768,879,4),(1155,1161,4),(1425,1469,4),(1471,1471,4),(1473,1474,4),(1476,1477,4),(1479,1479,4),(1536,1541,7),(1552,1562,4),(1564,1564,3),(1611,1631,4),(1648,1648,4),(1750,1756,4),(1757,1757,7),(1759,1764,4),(1767,1768,4),(1770,1773,4),(1807,1807,7),(1809,1809,4),(1840,1866,4),(1958,1968,4),(2027,2035,4),(2070,2073,4),(2075,2083,4),(2192,2193,7),(2259,2273,4),(2274,2274,7),(2275,2306,4),(2307,2307,8),(2362,2362,4),(2363,2363,8),(2364,2364,4),(2366,2368,8),(2369,2376,4),(2377,2380,8),(2381,2381,4),(2382,2383,8),(2385,2391,4),(2402,2403,4),(2433,2433,4),(2434,2435,8),(2492,2492,4),(2494,2494,4),(2495,2496,8),(2497,2500,4),(2503,2504,8),(2507,2508,8),(2509,2509,4),(2519,2519,4),(2530,2531,4),(2561,2562,4),(2563,2563,8),(2620,2620,4),(2622,2624,8),(2625,2626,4),(2631,2632,4),(2635,2637,4),(2691,2691,8),(2748,2748,4),(2750,2752,8),(2753,2757,4),(2761,2761,8),(2765,2765,4),(2818,2819,8),(2876,2876,4),(2878,2879,4),(2880,2880,8),(2881,2884,4),(2887,2888,8),(2893,2893,4),(2902,2903,4),(3073,3075,8),(3132,3132,4),(3134,3136,4),(3137,3140,8),(3142,3144,4),(3146,3149,4),(3276,3277,4),(3330,3331,8),(3390,3390,4),(3391,3392,8),(3393,3396,4),(3398,3400,8),(3405,3405,4),(3406,3406,7),(3633,3633,4),(3635,3635,8),(3636,3642,4),(3655,3662,4),(3761,3761,4),(3763,3763,8),(3764,3772,4),(3864,3865,4),(3902,3903,8),(3953,3966,4),(4155,4156,8),(4957,4959,4),(6158,6158,3),(6832,6862,4),(7616,7679,4),(8203,8203,3),(8204,8204,4),(8205,8205,5),(8206,8207,3),(8232,8238,3),(8288,8303,3),(8400,8432,4),(12330,12335,4),(12441,12442,4),(42607,42610,4),(64286,64286,4),(65024,65039,4),(65056,65071,4),(65279,65279,3),(65520,65531,3),(69821,69821,7),(69837,69837,7),(127462,127487,6),(127995,127999,4),(917504,917535,3),(917536,917631,4),(917632,917759,3),(917760,917999,4),(918000,921599,3)]
def cG:Option (List (Int×Int×Int)):=
 some bZ
theorem fR (d:Own c0 G F) {r:List (Int×Int×Int)} (H:cG=some r): Calls prog 50 #[] c0.w (aR c0 fun c v=>∃a b,Own c G (es true bm a 74 b r :: F)∧v=a∧OA bm c a b r):=by
 unfold cG at H;refine en func50 rfl rfl (sr (va (Y) (wln (sr (va (aa 0 9 3) (va (aa 10 10 2) (va (aa 11 12 3) (va (aa 13 13 1) (va (aa 14 31 3) (va (aa 127 159 3) (va (aa 173 173 3) (va (aa 768 879 4) (va (aa 1155 1161 4) (va (aa 1425 1469 4) (va (aa 1471 1471 4) (va (aa 1473 1474 4) (va (aa 1476 1477 4) (va (aa 1479 1479 4) (va (aa 1536 1541 7) (va (aa 1552 1562 4) (va (aa 1564 1564 3) (va (aa 1611 1631 4) (va (aa 1648 1648 4) (va (aa 1750 1756 4) (va (aa 1757 1757 7) (va (aa 1759 1764 4) (va (aa 1767 1768 4) (va (aa 1770 1773 4) (va (aa 1807 1807 7) (va (aa 1809 1809 4) (va (aa 1840 1866 4) (va (aa 1958 1968 4) (va (aa 2027 2035 4) (va (aa 2070 2073 4) (va (aa 2075 2083 4) (va (aa 2192 2193 7) (va (aa 2259 2273 4) (va (aa 2274 2274 7) (va (aa 2275 2306 4) (va (aa 2307 2307 8) (va (aa 2362 2362 4) (va (aa 2363 2363 8) (va (aa 2364 2364 4) (va (aa 2366 2368 8) (va (aa 2369 2376 4) (va (aa 2377 2380 8) (va (aa 2381 2381 4) (va (aa 2382 2383 8) (va (aa 2385 2391 4) (va (aa 2402 2403 4) (va (aa 2433 2433 4) (va (aa 2434 2435 8) (va (aa 2492 2492 4) (va (aa 2494 2494 4) (va (aa 2495 2496 8) (va (aa 2497 2500 4) (va (aa 2503 2504 8) (va (aa 2507 2508 8) (va (aa 2509 2509 4) (va (aa 2519 2519 4) (va (aa 2530 2531 4) (va (aa 2561 2562 4) (va (aa 2563 2563 8) (va (aa 2620 2620 4) (va (aa 2622 2624 8) (va (aa 2625 2626 4) (va (aa 2631 2632 4) (va (aa 2635 2637 4) (va (aa 2691 2691 8) (va (aa 2748 2748 4) (va (aa 2750 2752 8) (va (aa 2753 2757 4) (va (aa 2761 2761 8) (va (aa 2765 2765 4) (va (aa 2818 2819 8) (va (aa 2876 2876 4) (va (aa 2878 2879 4) (va (aa 2880 2880 8) (va (aa 2881 2884 4) (va (aa 2887 2888 8) (va (aa 2893 2893 4) (va (aa 2902 2903 4) (va (aa 3073 3075 8) (va (aa 3132 3132 4) (va (aa 3134 3136 4) (va (aa 3137 3140 8) (va (aa 3142 3144 4) (va (aa 3146 3149 4) (va (aa 3276 3277 4) (va (aa 3330 3331 8) (va (aa 3390 3390 4) (va (aa 3391 3392 8) (va (aa 3393 3396 4) (va (aa 3398 3400 8) (va (aa 3405 3405 4) (va (aa 3406 3406 7) (va (aa 3633 3633 4) (va (aa 3635 3635 8) (va (aa 3636 3642 4) (va (aa 3655 3662 4) (va (aa 3761 3761 4) (va (aa 3763 3763 8) (va (aa 3764 3772 4) (va (aa 3864 3865 4) (va (aa 3902 3903 8) (va (aa 3953 3966 4) (va (aa 4155 4156 8) (va (aa 4957 4959 4) (va (aa 6158 6158 3) (va (aa 6832 6862 4) (va (aa 7616 7679 4) (va (aa 8203 8203 3) (va (aa 8204 8204 4) (va (aa 8205 8205 5) (va (aa 8206 8207 3) (va (aa 8232 8238 3) (va (aa 8288 8303 3) (va (aa 8400 8432 4) (va (aa 12330 12335 4) (va (aa 12441 12442 4) (va (aa 42607 42610 4) (va (aa 64286 64286 4) (va (aa 65024 65039 4) (va (aa 65056 65071 4) (va (aa 65279 65279 3) (va (aa 65520 65531 3) (va (aa 69821 69821 7) (va (aa 69837 69837 7) (va (aa 127462 127487 6) (va (aa 127995 127999 4) (va (aa 917504 917535 3) (va (aa 917536 917631 4) (va (aa 917632 917759 3) (va (aa 917760 917999 4) (va (aa 918000 921599 3) (me (Own.sl (R:=bm) (E:=74) (ls:=bZ.map (fun x=>[I x.1,I x.2.1,I x.2.2])) (vs:=(bZ.map (fun x=>[I x.1,I x.2.1,I x.2.2])).flatten) (xs:=bZ) true d (bW _) rfl (dS.map _ (fun _=>rfl) _) (by kernel_rfl) (by kernel_rfl)) ?_))))))))))))))))))))))))))))))))))))))))))))))))))))))))))))))))))))))))))))))))))))))))))))))))))))))))))))))))))))))))))))))))))))))));rintro v5 f i ⟨h,e,g⟩;refine va (v5) (wln (W.ret ?_));obtain rfl:=si H;exact r1 (qq f ⟨v5,h,e,rfl,g⟩)
def bg (p0:Int) (p1:Int) (p2:Int):Option (Bool):=
 (cy (decide (p0≥p1)) (some (decide (p0≤p2)))).bind fun a=>
 some a
theorem bQ (f:Own c0 G F) (a:Int) (e:Int) (b:Int) {r:Bool} (H:bg a e b=some r): Calls prog 89 #[J a,J e,J b] c0.w (aR c0 fun c v=>Own c G (F)∧v=B r):=by
 unfold bg at H;refine en func89 rfl rfl (sr (va (B false) (wln (W.seq (bn H fun g h H=>W.join (Jn c0 fun c l=>Own c G (F)∧l= [(6,B g)]) ?_ ?_)))))
 ·clear H;refine W.region (va (J a) (va (J e) (va (B (decide (a≥e))) ?_)));rcases bo (decide (a≥e)) with d | d
  ·have i:=anT d h;refine vb d (wa (J a) (wa (J b) (wa (B (decide (a≤b))) ?_)));obtain rfl:=si i;exact vv (B (decide (a≤b))) (wln (jn c0 ⟨f,rfl⟩))
  obtain rfl:=anF d h;exact vb d (pz (ps (vv (B false) (wln (jn c0 ⟨f,rfl⟩)))))
 rintro m p ⟨k,n,_,rfl,o,rfl,j,rfl⟩;refine nrm (W.ret ?_);obtain rfl:=si H;exact r1 (qq k ⟨j,rfl⟩)
def bL (p0:Int):Option (Bool):=
 (bg p0 44032 55203).bind fun a=>
 some a
theorem eb (d:Own c0 G F) (a:Int) {r:Bool} (H:bL a=some r): Calls prog 90 #[J a] c0.w (aR c0 fun c v=>Own c G (F)∧v=B r):=by
 unfold bL at H;refine en func90 rfl rfl (sr (va (B false) (wln (sr (va (J a) (bn H fun b g H=>cl (bQ d a 44032 55203 g) ?_))))));rintro v7 f h ⟨e,rfl⟩;refine va (B b) (wln (W.ret ?_));obtain rfl:=si H;exact r1 (qq f ⟨e,rfl⟩)
def bP (p0:Int):Option (Int):=
 (bg p0 4352 4447).bind fun i=>
 (orE i ((bg p0 43360 43388).bind fun j=>
 some j)).bind fun h=>
 if h=true then
 some 9
 else
 (bg p0 4448 4519).bind fun c=>
 (orE c ((bg p0 55216 55238).bind fun d=>
 some d)).bind fun a=>
 if a=true then
 some 10
 else
 (bg p0 4520 4607).bind fun e=>
 (orE e ((bg p0 55243 55291).bind fun f=>
 some f)).bind fun b=>
 if b=true then
 some 11
 else
 (bL p0).bind fun g=>
 if (!g)=true then
 some 0
 else
 if (((w32 (p0 - 44032)).tmod 28)==0)=true then
 some 12
 else
 some 13
theorem eM (O0:Own c0 G F) (a:Int) {r:Int} (H:bP a=some r): Calls prog 57 #[J a] c0.w (aR c0 fun c v=>Own c G (F)∧v=I r):=by
 unfold bP at H;refine en func57 rfl rfl (sr (va (I 0) (wln (W.seq (W.block (W.seq (bn H fun w0 h1 H=>bn H fun e0 h2 H=>W.join (Jn c0 fun c l=>Own c G (F)∧l= [(0,J a),(3,B e0)]) ?_ ?_)))))))
 ·clear H;refine W.region (va (J a) (cl (bQ O0 a 4352 4447 h1) ?_));rintro v8 c7 l7 ⟨S,rfl⟩;rcases bo (w0) with j | j
  ·obtain rfl:=orT j h2;exact vb j (pz (vv (B true) (wln (jn c7 ⟨S,rfl⟩))))
  have e:=orF j h2;refine vb j (wa (J a) (wn (bn e fun A g0 e=>cl (bQ S a 43360 43388 g0) ?_)));rintro v17 U l16 ⟨P,rfl⟩;obtain rfl:=si e;exact vv (B A) (wln (jn U ⟨P,rfl⟩))
 rintro e_ w_ ⟨u,a1,_,rfl,d1,rfl,o,rfl⟩;refine nrm (cn H (fun i0 H=>?_) (fun i0 H=>?_))
 ·refine sr (va (I 9) (wln (W.ret (bkr (thr ?_)))));obtain rfl:=si H;exact r1 (qq u ⟨o,rfl⟩)
 refine W.seq (bn H fun M j0 H=>bn H fun D y H=>W.join (Jn u fun c l=>Own c G (F)∧l= [(0,J a),(10,B D)]) ?_ ?_)
 ·clear H;refine W.region (va (J a) (cl (bQ o a 4448 4519 j0) ?_));rintro v32 X e1 ⟨p,rfl⟩;rcases bo (M) with b | b
  ·obtain rfl:=orT b y;exact vb b (pz (vv (B true) (wln (jn X ⟨p,rfl⟩))))
  have f:=orF b y;refine vb b (wa (J a) (wn (bn f fun k k0 f=>cl (bQ p a 55216 55238 k0) ?_)));rintro v41 Z f1 ⟨R,rfl⟩;obtain rfl:=si f;exact vv (B k) (wln (jn Z ⟨R,rfl⟩))
 rintro e_ w_ ⟨x,b1,_,rfl,g1,rfl,q,rfl⟩;refine nrm (cn H (fun l0 H=>?_) (fun l0 H=>?_))
 ·refine sr (va (I 10) (wln (W.ret (bkr (thr ?_)))));obtain rfl:=si H;exact r1 (qq x ⟨q,rfl⟩)
 refine W.seq (bn H fun N m0 H=>bn H fun E z H=>W.join (Jn x fun c l=>Own c G (F)∧l= [(0,J a),(17,B E)]) ?_ ?_)
 ·clear H;refine W.region (va (J a) (cl (bQ q a 4520 4607 m0) ?_));rintro v56 a0 i1 ⟨s,rfl⟩;rcases bo (N) with d | d
  ·obtain rfl:=orT d z;exact vb d (pz (vv (B true) (wln (jn a0 ⟨s,rfl⟩))))
  have g:=orF d z;refine vb d (wa (J a) (wn (bn g fun m o0 g=>cl (bQ s a 55243 55291 o0) ?_)));rintro n1 b0 j1 ⟨T,rfl⟩;obtain rfl:=si g;exact vv (B m) (wln (jn b0 ⟨T,rfl⟩))
 rintro e_ w_ ⟨d0,c1,_,rfl,k1,rfl,t,rfl⟩;refine nrm (cn H (fun q0 H=>?_) (fun q0 H=>?_))
 ·refine sr (va (I 11) (wln (W.ret (bkr (thr ?_)))));obtain rfl:=si H;exact r1 (qq d0 ⟨t,rfl⟩)
 refine sr (va (J a) (bn H fun n s0 H=>cl (eb t a s0) ?_));rintro p1 i m1 ⟨h,rfl⟩;refine vv (B (!n)) (wln (cn H (fun t0 H=>?_) (fun t0 H=>?_)))
 ·refine sr (va (I 0) (wln (W.ret (bkr (thr ?_)))));obtain rfl:=si H;exact r1 (qq i ⟨h,rfl⟩)
 refine sr (va (J a) (va (J (w32 (a - 44032))) (va (J ((w32 (a - 44032)).tmod 28)) (vv (B (((w32 (a - 44032)).tmod 28)==0)) (wln (cn H (fun u0 H=>?_) (fun u0 H=>?_)))))))
 ·refine sr (va (I 12) (wln (W.ret (bkr (thr ?_)))));obtain rfl:=si H;exact r1 (qq i ⟨h,rfl⟩)
 refine W.skip (bkn (nrm (sr (va (I 13) (wln (W.ret ?_))))));obtain rfl:=si H;exact r1 (qq i ⟨h,rfl⟩)
def cR (p0:Int) (q0_0:List (Int×Int×Int)) (q1_0:Int):Option (Bool):=
 (idx q0_0 p0).bind fun a=>
 some (decide (a.2.1≥(w64 q1_0)))
theorem gb {d:Nat} {e:Nat} (o:Own c0 G F) (b:Int) (q0_0:List (Int×Int×Int)) (q1_0:Int) {r:Bool} (s:∀j u,([v2]:List Value)[j]? = some u→Im c0 d (0+j) u) (k:Sl bm c0 v2 q0_0) (t:∀j u,([J q1_0]:List Value)[j]? = some u→Im c0 e (0+j) u) (H:cR b q0_0 q1_0=some r): Calls prog 82 #[I b,Q d,Q e] c0.w (aR c0 fun c v=>Own c G (F)∧v=B r):=by
 unfold cR at H;refine en func82 rfl rfl (sr (va (B false) (wln (W.seq (rD [] (Kp G0 []) o ?_)))));intro h q p;have y:Kp G0 [] h:=Kp.nil0;refine tx 0 (fun g a=>l1 b8 ((mm s) 0 _ rfl)) (ta 1 (I b) (bn H fun f l H=>?_));obtain ⟨x,i,n⟩:=Sl.at (k.mono q) (bl l);obtain rfl:=i;refine tx 2 (fun g a=>ix b8 k.m l) (ta 3 (Qo (sb v2) (so v2+b.toNat * 3+1)) (tx 4 (fun g a=>l1 u_3 ((mm n) 1 _ rfl)) (tx 5 (fun g a=>l1 dR ((mm t) 0 _ rfl)) (ta 6 (I (w64 q1_0)) (ta 7 (B (decide (f.2.1≥(w64 q1_0)))) (ta 8 (B (decide (f.2.1≥(w64 q1_0)))) (dn (nrm (W.ret ?_)))))))));obtain rfl:=si H;exact r1 (qq h ⟨p,rfl⟩)
def ba (p0:Int) (p1_0_0:List (Int×Int×Int)) (p1_1_0:Int):Option (Int):=
 (cQ (σ:=Int×Int) (τ:=Int) ((p0 - 0).toNat+1) (fun a=>
 if (decide (a.1 < a.2))=true then
 (cR (w64 ((IntKind.u64.wrap (w64 (a.1+a.2))).fdiv (2 ^ 1))) p1_0_0 p1_1_0).bind fun b=>
 if (!b)=true then
 some (.inl ((w64 ((w64 ((IntKind.u64.wrap (w64 (a.1+a.2))).fdiv (2 ^ 1)))+1)),a.2))
 else
 some (.inl (a.1,(w64 ((IntKind.u64.wrap (w64 (a.1+a.2))).fdiv (2 ^ 1)))))
 else
 some (.inr (a.1))) (0,p0)).bind fun c=>
 some c
theorem dq {b1_0:Nat} {b1_1:Nat} (A:Own c0 G F) (b:Int) (p1_0_0:List (Int×Int×Int)) (p1_1_0:Int) {r:Int} (N:∀j u,([v2]:List Value)[j]? = some u→Im c0 b1_0 (0+j) u) (M:Sl bm c0 v2 p1_0_0) (P:∀j u,([J p1_1_0]:List Value)[j]? = some u→Im c0 b1_1 (0+j) u) (H:ba b p1_0_0 p1_1_0=some r): Calls prog 81 #[I b,.func (.func 82) #[] #[Q b1_0,Q b1_1]] c0.w (aR c0 fun c v=>Own c G (F)∧v=I r):=by
 unfold ba at H;refine en func81 rfl rfl (sr (va (I 0) (wln (sr (va (I b) (va (I 0) (va (I b) (wln (W.seq (W.block (bn H fun g y k=>lp y (fun a=>Jn c0 fun c l=>Own c G (F)∧l= [(1,.func (.func 82) #[] #[Q b1_0,Q b1_1]),(5,I a.1),(6,I a.2)]) (fun h ex e w=>ex= .exit 0∧(Jn c0 fun c l=>Own c G (F)∧l= [(5,I h)]) e w) ?_ ?_ ?_)))))))))))
 ·clear k y;intro a X q z H;revert q z;rintro E R ⟨D,Z,_,rfl,l7,rfl,o,rfl⟩;refine W.seq (sr (va (I a.1) (va (I a.2) (va (B (decide (a.1 < a.2))) (wln (cn H (fun s H=>?_) (fun s H=>?_)))))))
  ·refine W.skip (nrm (W.block (sr (va (I a.1) (va (I a.2) (va (I (w64 (a.1+a.2))) (va (.int .u64 (IntKind.u64.wrap (w64 (a.1+a.2)))) (va (.int .u64 ((IntKind.u64.wrap (w64 (a.1+a.2))).fdiv (2 ^ 1))) (vv (I (w64 ((IntKind.u64.wrap (w64 (a.1+a.2))).fdiv (2 ^ 1)))) (wln (sr (va (.func (.func 82) #[] #[Q b1_0,Q b1_1]) (va (I (w64 ((IntKind.u64.wrap (w64 (a.1+a.2))).fdiv (2 ^ 1)))) (bn H fun i t H=>cl (gb o (w64 ((IntKind.u64.wrap (w64 (a.1+a.2))).fdiv (2 ^ 1))) p1_0_0 p1_1_0 (mm N) M.m (mm P) t) ?_))))))))))))));rintro v20 f T ⟨d,rfl⟩;refine va (B (!i)) (wln (cn H (fun x H=>?_) (fun x H=>?_)))
   ·refine W.region (va (I (w64 ((IntKind.u64.wrap (w64 (a.1+a.2))).fdiv (2 ^ 1)))) (vv (I (w64 ((w64 ((IntKind.u64.wrap (w64 (a.1+a.2))).fdiv (2 ^ 1)))+1))) (WL.nil (bkn ?_))));obtain rfl:=si H;exact ⟨_,rfl,jn f ⟨d,rfl⟩⟩
   refine W.region (vv (I (w64 ((IntKind.u64.wrap (w64 (a.1+a.2))).fdiv (2 ^ 1)))) (WL.nil (bkn ?_)));obtain rfl:=si H;exact ⟨_,rfl,jn f ⟨d,rfl⟩⟩
  refine W.exit (thx ?_);obtain rfl:=si H;exact ⟨_,rfl,rfl,jn D ⟨o,rfl⟩⟩
 ·exact jn c0 ⟨A,rfl⟩
 rintro _ E R ⟨rfl,p,S,_,rfl,U,rfl,n,rfl⟩;refine bke (nrm (sr (vv (I g) (wln (W.ret ?_)))));obtain rfl:=si k;exact r1 (qq p ⟨n,rfl⟩)
def dI (p0:Int):Option (Int):=
 (cG).bind fun a=>
 (ba (a.length:Int) a p0).bind fun b=>
 (cy (decide (b < (a.length:Int))) ((idx a b).bind fun d=>
 some (decide (d.1≤(w64 p0))))).bind fun c=>
 if c=true then
 (idx a b).bind fun e=>
 some e.2.2
 else
 (bP p0).bind fun f=>
 some f
theorem ib (O0:Own c0 G F) (i:Int) {r:Int} (H:dI i=some r): Calls prog 42 #[J i] c0.w (aR c0 fun c v=>Own c G (F)∧v=I r):=by
 unfold dI at H;refine en func42 rfl rfl (sr (me (bx 21 [J i] O0) ?_));rintro v5 c4 l4 ⟨b1,rfl,O2,R⟩;refine va (I 0) (wln (sr (bn H fun j h6 H=>cl (fR O2 h6) ?_)));rintro v7 h1 p1 ⟨_,u8,U,rfl,s⟩;refine me (al 72 [Y] U) ?_;rintro v19 i1 E ⟨y,rfl,X⟩;obtain ⟨b,d,e,rfl⟩:=((s.mono E)).form;refine md (sC 72 0 (.slice b d e) [.slice b d e] 0 X ⟨s.m.one,trivial⟩) ?_;rintro j1 v0 t;refine wln (sr (vx (le1 0 b8 (t.on 0 rfl)) (vx (lnO 3 b8 s.m) ?_)));obtain ⟨k1,l0,q1,Z,g⟩:=t.frz 1 rfl (s.mono (E.trans v0));refine WL.gh l0 ?_;obtain ⟨m1,m0,M,a0,n⟩:=Own.frzB 0 Z rfl;refine WL.gh m0 ?_;have b0:=a0.sD 2 [1];refine va (.func (.func 82) #[] #[Q y,Q b1]) (bn H fun a o0 H=>cl (dq b0 (j.length:Int) j i n g.m (mm R) o0) ?_);rintro v40 i0 N ⟨d0,rfl⟩;refine va (I a) (wln (W.seq (W.seq (bn H fun P z H=>W.join (Jn i0 fun c l=>Own c G (es false bm (.slice b d e) 74 u8 j :: F)∧l= [(1,Q b1),(3,Q y),(4,I a),(23,B P)]) ?_ ?_))))
 ·clear H;refine rD [] (Kp G0 []) d0 ?_;intro p w0 u;have t1:Kp G0 [] p:=Kp.nil0;refine ta 0 (I a) (tx 1 (fun k f=>l1 b8 ((mm n) 0 _ rfl)) (tx 2 (fun k f=>ln 3 b8 g.m) (ta 3 (B (decide (a < (j.length:Int)))) ?_)));rcases bo (decide (a < (j.length:Int))) with h | h
  ·have o:=anT h z;refine bn o fun q A o=>AC.takeb 4 h rfl (by kernel_rfl) (by kernel_rfl) (fun k f=>(by kernel_rfl)) (tx 5 (fun k f=>l1 b8 ((mm n) 0 _ rfl)) (ta 6 (I a) ?_));obtain ⟨e1,q0,y0⟩:=Sl.at (g.mono (M.trans (N.trans w0))) (bl A);obtain rfl:=q0;refine tx 7 (fun k f=>ix b8 g.m A) (ta 8 (Qo (sb (.slice b d e)) (so (.slice b d e)+a.toNat * 3)) (tx 9 (fun k f=>l1 u_3 ((mm y0) 0 _ rfl)) (tx 10 (fun k f=>l1 dR ((mm R) 0 _ rfl)) (ta 11 (I (w64 i)) (ta 12 (B (decide (q.1≤(w64 i)))) ?_)))));obtain rfl:=si o;exact ta 13 (B (decide (q.1≤(w64 i)))) (dn (nrm (jn p ⟨u,rfl⟩)))
  obtain rfl:=anF h z;exact AC.takeb 4 h rfl (by kernel_rfl) (by kernel_rfl) (fun k f=>(by kernel_rfl)) (tp 5 (tp 6 (tp 7 (tp 8 (tp 9 (tp 10 (tp 11 (tp 12 (ta 13 (B false) (dn (nrm (jn p ⟨u,rfl⟩))))))))))))
 rintro e_ w_ ⟨j0,n1,_,rfl,x0,rfl,x,rfl⟩;refine nrm (cn H (fun s0 H=>?_) (fun s0 H=>?_))
 ·refine sr (vx (l1 b8 ((mm n) 0 _ rfl)) (va (I a) (bn H fun S D H=>?_)));obtain ⟨f1,t0,z0⟩:=Sl.at (g.mono (M.trans (N.trans x0))) (bl D);obtain rfl:=t0;refine vx (ix b8 g.m D) (va (Qo (sb (.slice b d e)) (so (.slice b d e)+a.toNat * 3+2)) (vx (l1 u_3 (z0 2 _ rfl)) (va (I S.2.2) (wln (W.ret (thr ?_))))));obtain rfl:=si H;have e0:=x.sD 1 [];exact r1 (qq j0 ⟨e0,rfl⟩)
 refine W.skip (nrm (sr (vx (l1 dR ((mm R) 0 _ rfl)) (bn H fun T u0 H=>cl (eM x i u0) ?_))));rintro u1 k0 s1 ⟨f0,rfl⟩;refine va (I T) (wln (W.ret ?_));obtain rfl:=si H;have g0:=f0.sD 1 [];exact r1 (qq k0 ⟨g0,rfl⟩)
def bY:List (Int×Int):=[(169,169),(174,174),(8252,8252),(8265,8265),(8482,8482),(8505,8505),(8596,8601),(8617,8618),(8986,8987),(9000,9000),(9096,9096),(9167,9167),(9193,9203),(9208,9210),(9410,9410),(9642,9643),(9654,9654),(9664,9664),(9723,9726),(9728,9733),(9735,9746),(9748,9861),(9872,9989),(9992,10002),(10004,10004),(10006,10006),(10013,10013),(10017,10017),(10024,10024),(10035,10036),(10052,10052),(10055,10055),(10060,10060),(10062,10062),(10067,10069),(10071,10071),(10083,10087),(10133,10135),(10145,10145),(10160,10160),(10175,10175),(10548,10549),(11013,11015),(11035,11036),(11088,11088),(11093,11093),(12336,12336),(12349,12349),(12951,12951),(12953,12953),(126976,127231),(127245,127247),(127279,127279),(127340,127345),(127358,127359),(127374,127374),(127377,127386),(127405,127461),(127489,127503),(127514,127514),(127535,127535),(127538,127546),(127548,127551),(127561,127994),(128000,128317),(128326,128591),(128640,128767),(128884,128895),(128981,129023),(129036,129039),(129096,129103),(129114,129119),(129160,129167),(129198,129279),(129292,129338),(129340,129349),(129351,129791),(130048,131069)]
def ce:Option (List (Int×Int)):=
 some bY
theorem fl (d:Own c0 G F) {r:List (Int×Int)} (H:ce=some r): Calls prog 52 #[] c0.w (aR c0 fun c v=>∃a b,Own c G (es true dQ a 78 b r :: F)∧v=a∧OA dQ c a b r):=by
 unfold ce at H;refine en func52 rfl rfl (sr (va (Y) (wln (sr (va (JII 169 169) (va (JII 174 174) (va (JII 8252 8252) (va (JII 8265 8265) (va (JII 8482 8482) (va (JII 8505 8505) (va (JII 8596 8601) (va (JII 8617 8618) (va (JII 8986 8987) (va (JII 9000 9000) (va (JII 9096 9096) (va (JII 9167 9167) (va (JII 9193 9203) (va (JII 9208 9210) (va (JII 9410 9410) (va (JII 9642 9643) (va (JII 9654 9654) (va (JII 9664 9664) (va (JII 9723 9726) (va (JII 9728 9733) (va (JII 9735 9746) (va (JII 9748 9861) (va (JII 9872 9989) (va (JII 9992 10002) (va (JII 10004 10004) (va (JII 10006 10006) (va (JII 10013 10013) (va (JII 10017 10017) (va (JII 10024 10024) (va (JII 10035 10036) (va (JII 10052 10052) (va (JII 10055 10055) (va (JII 10060 10060) (va (JII 10062 10062) (va (JII 10067 10069) (va (JII 10071 10071) (va (JII 10083 10087) (va (JII 10133 10135) (va (JII 10145 10145) (va (JII 10160 10160) (va (JII 10175 10175) (va (JII 10548 10549) (va (JII 11013 11015) (va (JII 11035 11036) (va (JII 11088 11088) (va (JII 11093 11093) (va (JII 12336 12336) (va (JII 12349 12349) (va (JII 12951 12951) (va (JII 12953 12953) (va (JII 126976 127231) (va (JII 127245 127247) (va (JII 127279 127279) (va (JII 127340 127345) (va (JII 127358 127359) (va (JII 127374 127374) (va (JII 127377 127386) (va (JII 127405 127461) (va (JII 127489 127503) (va (JII 127514 127514) (va (JII 127535 127535) (va (JII 127538 127546) (va (JII 127548 127551) (va (JII 127561 127994) (va (JII 128000 128317) (va (JII 128326 128591) (va (JII 128640 128767) (va (JII 128884 128895) (va (JII 128981 129023) (va (JII 129036 129039) (va (JII 129096 129103) (va (JII 129114 129119) (va (JII 129160 129167) (va (JII 129198 129279) (va (JII 129292 129338) (va (JII 129340 129349) (va (JII 129351 129791) (va (JII 130048 131069) (me (Own.sl (R:=dQ) (E:=78) (ls:=bY.map (fun x=>[J x.1,J x.2])) (vs:=(bY.map (fun x=>[J x.1,J x.2])).flatten) (xs:=bY) true d (bW _) rfl (dS.map _ (fun _=>rfl) _) (by kernel_rfl) (by kernel_rfl)) ?_)))))))))))))))))))))))))))))))))))))))))))))))))))))))))))))))))))))))))))))))))));rintro v5 f i ⟨h,e,g⟩;refine va (v5) (wln (W.ret ?_));obtain rfl:=si H;exact r1 (qq f ⟨v5,h,e,rfl,g⟩)
def cF (p0:Int) (q0_0:List (Int×Int)) (q1_0:Int):Option (Bool):=
 (idx q0_0 p0).bind fun a=>
 some (decide (a.2≥q1_0))
theorem fQ {d:Nat} {e:Nat} (o:Own c0 G F) (b:Int) (q0_0:List (Int×Int)) (q1_0:Int) {r:Bool} (s:∀j u,([v2]:List Value)[j]? = some u→Im c0 d (0+j) u) (k:Sl dQ c0 v2 q0_0) (t:∀j u,([J q1_0]:List Value)[j]? = some u→Im c0 e (0+j) u) (H:cF b q0_0 q1_0=some r): Calls prog 83 #[I b,Q d,Q e] c0.w (aR c0 fun c v=>Own c G (F)∧v=B r):=by
 unfold cF at H;refine en func83 rfl rfl (sr (va (B false) (wln (W.seq (rD [] (Kp G0 []) o ?_)))));intro h q p;have y:Kp G0 [] h:=Kp.nil0;refine tx 0 (fun g a=>l1 fB ((mm s) 0 _ rfl)) (ta 1 (I b) (bn H fun f l H=>?_));obtain ⟨x,i,n⟩:=Sl.at (k.mono q) (bl l);obtain rfl:=i;refine tx 2 (fun g a=>ix fB k.m l) (ta 3 (Qo (sb v2) (so v2+b.toNat * 2+1)) (tx 4 (fun g a=>l1 dR ((mm n) 1 _ rfl)) (tx 5 (fun g a=>l1 dR ((mm t) 0 _ rfl)) (ta 6 (B (decide (f.2≥q1_0))) (ta 7 (B (decide (f.2≥q1_0))) (dn (nrm (W.ret ?_))))))));obtain rfl:=si H;exact r1 (qq h ⟨p,rfl⟩)
def aY (p0:Int) (p1_0_0:List (Int×Int)) (p1_1_0:Int):Option (Int):=
 (cQ (σ:=Int×Int) (τ:=Int) ((p0 - 0).toNat+1) (fun a=>
 if (decide (a.1 < a.2))=true then
 (cF (w64 ((IntKind.u64.wrap (w64 (a.1+a.2))).fdiv (2 ^ 1))) p1_0_0 p1_1_0).bind fun b=>
 if (!b)=true then
 some (.inl ((w64 ((w64 ((IntKind.u64.wrap (w64 (a.1+a.2))).fdiv (2 ^ 1)))+1)),a.2))
 else
 some (.inl (a.1,(w64 ((IntKind.u64.wrap (w64 (a.1+a.2))).fdiv (2 ^ 1)))))
 else
 some (.inr (a.1))) (0,p0)).bind fun c=>
 some c
theorem da {b1_0:Nat} {b1_1:Nat} (A:Own c0 G F) (b:Int) (p1_0_0:List (Int×Int)) (p1_1_0:Int) {r:Int} (N:∀j u,([v2]:List Value)[j]? = some u→Im c0 b1_0 (0+j) u) (M:Sl dQ c0 v2 p1_0_0) (P:∀j u,([J p1_1_0]:List Value)[j]? = some u→Im c0 b1_1 (0+j) u) (H:aY b p1_0_0 p1_1_0=some r): Calls prog 81 #[I b,.func (.func 83) #[] #[Q b1_0,Q b1_1]] c0.w (aR c0 fun c v=>Own c G (F)∧v=I r):=by
 unfold aY at H;refine en func81 rfl rfl (sr (va (I 0) (wln (sr (va (I b) (va (I 0) (va (I b) (wln (W.seq (W.block (bn H fun g y k=>lp y (fun a=>Jn c0 fun c l=>Own c G (F)∧l= [(1,.func (.func 83) #[] #[Q b1_0,Q b1_1]),(5,I a.1),(6,I a.2)]) (fun h ex e w=>ex= .exit 0∧(Jn c0 fun c l=>Own c G (F)∧l= [(5,I h)]) e w) ?_ ?_ ?_)))))))))))
 ·clear k y;intro a X q z H;revert q z;rintro E R ⟨D,Z,_,rfl,l7,rfl,o,rfl⟩;refine W.seq (sr (va (I a.1) (va (I a.2) (va (B (decide (a.1 < a.2))) (wln (cn H (fun s H=>?_) (fun s H=>?_)))))))
  ·refine W.skip (nrm (W.block (sr (va (I a.1) (va (I a.2) (va (I (w64 (a.1+a.2))) (va (.int .u64 (IntKind.u64.wrap (w64 (a.1+a.2)))) (va (.int .u64 ((IntKind.u64.wrap (w64 (a.1+a.2))).fdiv (2 ^ 1))) (vv (I (w64 ((IntKind.u64.wrap (w64 (a.1+a.2))).fdiv (2 ^ 1)))) (wln (sr (va (.func (.func 83) #[] #[Q b1_0,Q b1_1]) (va (I (w64 ((IntKind.u64.wrap (w64 (a.1+a.2))).fdiv (2 ^ 1)))) (bn H fun i t H=>cl (fQ o (w64 ((IntKind.u64.wrap (w64 (a.1+a.2))).fdiv (2 ^ 1))) p1_0_0 p1_1_0 (mm N) M.m (mm P) t) ?_))))))))))))));rintro v20 f T ⟨d,rfl⟩;refine va (B (!i)) (wln (cn H (fun x H=>?_) (fun x H=>?_)))
   ·refine W.region (va (I (w64 ((IntKind.u64.wrap (w64 (a.1+a.2))).fdiv (2 ^ 1)))) (vv (I (w64 ((w64 ((IntKind.u64.wrap (w64 (a.1+a.2))).fdiv (2 ^ 1)))+1))) (WL.nil (bkn ?_))));obtain rfl:=si H;exact ⟨_,rfl,jn f ⟨d,rfl⟩⟩
   refine W.region (vv (I (w64 ((IntKind.u64.wrap (w64 (a.1+a.2))).fdiv (2 ^ 1)))) (WL.nil (bkn ?_)));obtain rfl:=si H;exact ⟨_,rfl,jn f ⟨d,rfl⟩⟩
  refine W.exit (thx ?_);obtain rfl:=si H;exact ⟨_,rfl,rfl,jn D ⟨o,rfl⟩⟩
 ·exact jn c0 ⟨A,rfl⟩
 rintro _ E R ⟨rfl,p,S,_,rfl,U,rfl,n,rfl⟩;refine bke (nrm (sr (vv (I g) (wln (W.ret ?_)))));obtain rfl:=si k;exact r1 (qq p ⟨n,rfl⟩)
def dl (p0:Int):Option (Bool):=
 (ce).bind fun a=>
 (aY (a.length:Int) a p0).bind fun b=>
 (cy (decide (b < (a.length:Int))) ((idx a b).bind fun d=>
 some (decide (d.1≤p0)))).bind fun c=>
 some c
theorem gI (O0:Own c0 G F) (j:Int) {r:Bool} (H:dl j=some r): Calls prog 43 #[J j] c0.w (aR c0 fun c v=>Own c G (F)∧v=B r):=by
 unfold dl at H;refine en func43 rfl rfl (sr (me (bx 21 [J j] O0) ?_));rintro v5 c4 l4 ⟨b1,rfl,O2,m3⟩;refine va (B false) (wln (sr (bn H fun h h6 H=>cl (fl O2 h6) ?_)));rintro v7 u0 a1 ⟨_,u8,D,rfl,s⟩;refine me (al 76 [Y] D) ?_;rintro v19 v0 z ⟨U,rfl,E⟩;obtain ⟨d,e,f,rfl⟩:=((s.mono z)).form;refine md (sC 76 0 (.slice d e f) [.slice d e f] 0 E ⟨s.m.one,trivial⟩) ?_;rintro w0 f0 t;refine wln (sr (vx (le1 0 fB (t.on 0 rfl)) (vx (lnO 3 fB s.m) ?_)));obtain ⟨x0,a0,c1,M,n⟩:=t.frz 1 rfl (s.mono (z.trans f0));refine WL.gh a0 ?_;obtain ⟨y0,b0,g0,N,q⟩:=Own.frzB 0 M rfl;refine WL.gh b0 ?_;have P:=N.sD 2 [1];refine va (.func (.func 83) #[] #[Q U,Q b1]) (bn H fun a d0 H=>cl (da P (h.length:Int) h j q n.m (mm m3) d0) ?_);rintro v40 X h0 ⟨R,rfl⟩;refine va (I a) (wln (W.seq (bn H fun A x H=>W.join (Jn X fun c l=>Own c G (es false dQ (.slice d e f) 78 u8 h :: F)∧l= [(2,B A)]) ?_ ?_)))
 ·clear H;refine rD [] (Kp G0 []) R ?_;intro p i0 u;have e1:Kp G0 [] p:=Kp.nil0;refine ta 0 (I a) (tx 1 (fun i b=>l1 fB ((mm q) 0 _ rfl)) (tx 2 (fun i b=>ln 3 fB n.m) (ta 3 (B (decide (a < (h.length:Int)))) ?_)));rcases bo (decide (a < (h.length:Int))) with g | g
  ·have o:=anT g x;refine bn o fun k y o=>AC.takeb 4 g rfl (by kernel_rfl) (by kernel_rfl) (fun i b=>(by kernel_rfl)) (tx 5 (fun i b=>l1 fB ((mm q) 0 _ rfl)) (ta 6 (I a) ?_));obtain ⟨s0,e0,k0⟩:=Sl.at (n.mono (g0.trans (h0.trans i0))) (bl y);obtain rfl:=e0;refine tx 7 (fun i b=>ix fB n.m y) (ta 8 (Qo (sb (.slice d e f)) (so (.slice d e f)+a.toNat * 2)) (tx 9 (fun i b=>l1 dR ((mm k0) 0 _ rfl)) (tx 10 (fun i b=>l1 dR ((mm m3) 0 _ rfl)) (ta 11 (B (decide (k.1≤j))) ?_))));obtain rfl:=si o;exact ta 12 (B (decide (k.1≤j))) (ta 13 (B (decide (k.1≤j))) (dn (nrm (jn p ⟨u,rfl⟩))))
  obtain rfl:=anF g x;exact AC.takeb 4 g rfl (by kernel_rfl) (by kernel_rfl) (fun i b=>(by kernel_rfl)) (tp 5 (tp 6 (tp 7 (tp 8 (tp 9 (tp 10 (tp 11 (ta 12 (B false) (ta 13 (B false) (dn (nrm (jn p ⟨u,rfl⟩))))))))))))
 rintro e_ w_ ⟨Z,z0,_,rfl,d1,rfl,S,rfl⟩;refine nrm (W.ret ?_);obtain rfl:=si H;have T:=S.sD 1 [];exact r1 (qq Z ⟨T,rfl⟩)
def b6:List (Int×Int×Int):=[(768,879,3),(1155,1159,3),(1425,1469,3),(1552,1562,3),(1611,1631,3),(2325,2361,1),(2364,2364,3),(2381,2381,2),(2385,2388,3),(2392,2399,1),(2424,2431,1),(2453,2472,1),(2474,2480,1),(2482,2482,1),(2486,2489,1),(2492,2492,3),(2509,2509,2),(2524,2525,1),(2527,2527,1),(2544,2545,1),(2709,2728,1),(2730,2736,1),(2738,2739,1),(2741,2745,1),(2748,2748,3),(2765,2765,2),(2809,2809,1),(2837,2856,1),(2858,2864,1),(2866,2867,1),(2869,2873,1),(2876,2876,3),(2893,2893,2),(2908,2909,1),(2911,2911,1),(2929,2929,1),(3093,3112,1),(3114,3129,1),(3132,3132,3),(3149,3149,2),(3160,3162,1),(3349,3386,1),(3405,3405,2),(6832,6845,3),(7616,7679,3),(8205,8205,3),(8400,8412,3),(12330,12335,3),(12441,12442,3),(65056,65071,3)]
def ci:Option (List (Int×Int×Int)):=
 some b6
theorem fp (d:Own c0 G F) {r:List (Int×Int×Int)} (H:ci=some r): Calls prog 53 #[] c0.w (aR c0 fun c v=>∃a b,Own c G (es true bm a 74 b r :: F)∧v=a∧OA bm c a b r):=by
 unfold ci at H;refine en func53 rfl rfl (sr (va (Y) (wln (sr (va (aa 768 879 3) (va (aa 1155 1159 3) (va (aa 1425 1469 3) (va (aa 1552 1562 3) (va (aa 1611 1631 3) (va (aa 2325 2361 1) (va (aa 2364 2364 3) (va (aa 2381 2381 2) (va (aa 2385 2388 3) (va (aa 2392 2399 1) (va (aa 2424 2431 1) (va (aa 2453 2472 1) (va (aa 2474 2480 1) (va (aa 2482 2482 1) (va (aa 2486 2489 1) (va (aa 2492 2492 3) (va (aa 2509 2509 2) (va (aa 2524 2525 1) (va (aa 2527 2527 1) (va (aa 2544 2545 1) (va (aa 2709 2728 1) (va (aa 2730 2736 1) (va (aa 2738 2739 1) (va (aa 2741 2745 1) (va (aa 2748 2748 3) (va (aa 2765 2765 2) (va (aa 2809 2809 1) (va (aa 2837 2856 1) (va (aa 2858 2864 1) (va (aa 2866 2867 1) (va (aa 2869 2873 1) (va (aa 2876 2876 3) (va (aa 2893 2893 2) (va (aa 2908 2909 1) (va (aa 2911 2911 1) (va (aa 2929 2929 1) (va (aa 3093 3112 1) (va (aa 3114 3129 1) (va (aa 3132 3132 3) (va (aa 3149 3149 2) (va (aa 3160 3162 1) (va (aa 3349 3386 1) (va (aa 3405 3405 2) (va (aa 6832 6845 3) (va (aa 7616 7679 3) (va (aa 8205 8205 3) (va (aa 8400 8412 3) (va (aa 12330 12335 3) (va (aa 12441 12442 3) (va (aa 65056 65071 3) (me (Own.sl (R:=bm) (E:=74) (ls:=b6.map (fun x=>[I x.1,I x.2.1,I x.2.2])) (vs:=(b6.map (fun x=>[I x.1,I x.2.1,I x.2.2])).flatten) (xs:=b6) true d (bW _) rfl (dS.map _ (fun _=>rfl) _) (by kernel_rfl) (by kernel_rfl)) ?_)))))))))))))))))))))))))))))))))))))))))))))))))))))));rintro v5 f i ⟨h,e,g⟩;refine va (v5) (wln (W.ret ?_));obtain rfl:=si H;exact r1 (qq f ⟨v5,h,e,rfl,g⟩)
def cJ (p0:Int) (q0_0:List (Int×Int×Int)) (q1_0:Int):Option (Bool):=
 (idx q0_0 p0).bind fun a=>
 some (decide (a.2.1≥(w64 q1_0)))
theorem fU {d:Nat} {e:Nat} (o:Own c0 G F) (b:Int) (q0_0:List (Int×Int×Int)) (q1_0:Int) {r:Bool} (s:∀j u,([v2]:List Value)[j]? = some u→Im c0 d (0+j) u) (k:Sl bm c0 v2 q0_0) (t:∀j u,([J q1_0]:List Value)[j]? = some u→Im c0 e (0+j) u) (H:cJ b q0_0 q1_0=some r): Calls prog 84 #[I b,Q d,Q e] c0.w (aR c0 fun c v=>Own c G (F)∧v=B r):=by
 unfold cJ at H;refine en func84 rfl rfl (sr (va (B false) (wln (W.seq (rD [] (Kp G0 []) o ?_)))));intro h q p;have y:Kp G0 [] h:=Kp.nil0;refine tx 0 (fun g a=>l1 b8 ((mm s) 0 _ rfl)) (ta 1 (I b) (bn H fun f l H=>?_));obtain ⟨x,i,n⟩:=Sl.at (k.mono q) (bl l);obtain rfl:=i;refine tx 2 (fun g a=>ix b8 k.m l) (ta 3 (Qo (sb v2) (so v2+b.toNat * 3+1)) (tx 4 (fun g a=>l1 u_3 ((mm n) 1 _ rfl)) (tx 5 (fun g a=>l1 dR ((mm t) 0 _ rfl)) (ta 6 (I (w64 q1_0)) (ta 7 (B (decide (f.2.1≥(w64 q1_0)))) (ta 8 (B (decide (f.2.1≥(w64 q1_0)))) (dn (nrm (W.ret ?_)))))))));obtain rfl:=si H;exact r1 (qq h ⟨p,rfl⟩)
def a3 (p0:Int) (p1_0_0:List (Int×Int×Int)) (p1_1_0:Int):Option (Int):=
 (cQ (σ:=Int×Int) (τ:=Int) ((p0 - 0).toNat+1) (fun a=>
 if (decide (a.1 < a.2))=true then
 (cJ (w64 ((IntKind.u64.wrap (w64 (a.1+a.2))).fdiv (2 ^ 1))) p1_0_0 p1_1_0).bind fun b=>
 if (!b)=true then
 some (.inl ((w64 ((w64 ((IntKind.u64.wrap (w64 (a.1+a.2))).fdiv (2 ^ 1)))+1)),a.2))
 else
 some (.inl (a.1,(w64 ((IntKind.u64.wrap (w64 (a.1+a.2))).fdiv (2 ^ 1)))))
 else
 some (.inr (a.1))) (0,p0)).bind fun c=>
 some c
theorem dc {b1_0:Nat} {b1_1:Nat} (A:Own c0 G F) (b:Int) (p1_0_0:List (Int×Int×Int)) (p1_1_0:Int) {r:Int} (N:∀j u,([v2]:List Value)[j]? = some u→Im c0 b1_0 (0+j) u) (M:Sl bm c0 v2 p1_0_0) (P:∀j u,([J p1_1_0]:List Value)[j]? = some u→Im c0 b1_1 (0+j) u) (H:a3 b p1_0_0 p1_1_0=some r): Calls prog 81 #[I b,.func (.func 84) #[] #[Q b1_0,Q b1_1]] c0.w (aR c0 fun c v=>Own c G (F)∧v=I r):=by
 unfold a3 at H;refine en func81 rfl rfl (sr (va (I 0) (wln (sr (va (I b) (va (I 0) (va (I b) (wln (W.seq (W.block (bn H fun g y k=>lp y (fun a=>Jn c0 fun c l=>Own c G (F)∧l= [(1,.func (.func 84) #[] #[Q b1_0,Q b1_1]),(5,I a.1),(6,I a.2)]) (fun h ex e w=>ex= .exit 0∧(Jn c0 fun c l=>Own c G (F)∧l= [(5,I h)]) e w) ?_ ?_ ?_)))))))))))
 ·clear k y;intro a X q z H;revert q z;rintro E R ⟨D,Z,_,rfl,l7,rfl,o,rfl⟩;refine W.seq (sr (va (I a.1) (va (I a.2) (va (B (decide (a.1 < a.2))) (wln (cn H (fun s H=>?_) (fun s H=>?_)))))))
  ·refine W.skip (nrm (W.block (sr (va (I a.1) (va (I a.2) (va (I (w64 (a.1+a.2))) (va (.int .u64 (IntKind.u64.wrap (w64 (a.1+a.2)))) (va (.int .u64 ((IntKind.u64.wrap (w64 (a.1+a.2))).fdiv (2 ^ 1))) (vv (I (w64 ((IntKind.u64.wrap (w64 (a.1+a.2))).fdiv (2 ^ 1)))) (wln (sr (va (.func (.func 84) #[] #[Q b1_0,Q b1_1]) (va (I (w64 ((IntKind.u64.wrap (w64 (a.1+a.2))).fdiv (2 ^ 1)))) (bn H fun i t H=>cl (fU o (w64 ((IntKind.u64.wrap (w64 (a.1+a.2))).fdiv (2 ^ 1))) p1_0_0 p1_1_0 (mm N) M.m (mm P) t) ?_))))))))))))));rintro v20 f T ⟨d,rfl⟩;refine va (B (!i)) (wln (cn H (fun x H=>?_) (fun x H=>?_)))
   ·refine W.region (va (I (w64 ((IntKind.u64.wrap (w64 (a.1+a.2))).fdiv (2 ^ 1)))) (vv (I (w64 ((w64 ((IntKind.u64.wrap (w64 (a.1+a.2))).fdiv (2 ^ 1)))+1))) (WL.nil (bkn ?_))));obtain rfl:=si H;exact ⟨_,rfl,jn f ⟨d,rfl⟩⟩
   refine W.region (vv (I (w64 ((IntKind.u64.wrap (w64 (a.1+a.2))).fdiv (2 ^ 1)))) (WL.nil (bkn ?_)));obtain rfl:=si H;exact ⟨_,rfl,jn f ⟨d,rfl⟩⟩
  refine W.exit (thx ?_);obtain rfl:=si H;exact ⟨_,rfl,rfl,jn D ⟨o,rfl⟩⟩
 ·exact jn c0 ⟨A,rfl⟩
 rintro _ E R ⟨rfl,p,S,_,rfl,U,rfl,n,rfl⟩;refine bke (nrm (sr (vv (I g) (wln (W.ret ?_)))));obtain rfl:=si k;exact r1 (qq p ⟨n,rfl⟩)
def dp (p0:Int):Option (Int):=
 (ci).bind fun a=>
 (a3 (a.length:Int) a p0).bind fun b=>
 (orE (b==(a.length:Int)) ((idx a b).bind fun d=>
 some (decide (d.1 > (w64 p0))))).bind fun c=>
 if c=true then
 some 0
 else
 (idx a b).bind fun e=>
 some e.2.2
theorem gK (O0:Own c0 G F) (k:Int) {r:Int} (H:dp k=some r): Calls prog 44 #[J k] c0.w (aR c0 fun c v=>Own c G (F)∧v=I r):=by
 unfold dp at H;refine en func44 rfl rfl (sr (me (bx 21 [J k] O0) ?_));rintro v5 c4 l4 ⟨b1,rfl,O2,m3⟩;refine va (I 0) (wln (sr (bn H fun i h6 H=>cl (fp O2 h6) ?_)));rintro v7 d1 j1 ⟨_,u8,T,rfl,s⟩;refine me (al 72 [Y] T) ?_;rintro v19 e1 M ⟨y,rfl,U⟩;obtain ⟨b,d,e,rfl⟩:=((s.mono M)).form;refine md (sC 72 0 (.slice b d e) [.slice b d e] 0 U ⟨s.m.one,trivial⟩) ?_;rintro f1 m0 t;refine wln (sr (vx (le1 0 b8 (t.on 0 rfl)) (vx (lnO 3 b8 s.m) ?_)));obtain ⟨g1,g0,k1,X,g⟩:=t.frz 1 rfl (s.mono (M.trans m0));refine WL.gh g0 ?_;obtain ⟨h1,h0,N,Z,n⟩:=Own.frzB 0 X rfl;refine WL.gh h0 ?_;have a0:=Z.sD 2 [1];refine va (.func (.func 84) #[] #[Q y,Q b1]) (bn H fun a i0 H=>cl (dc a0 (i.length:Int) i k n g.m (mm m3) i0) ?_);rintro v40 f0 P ⟨b0,rfl⟩;refine va (I a) (wln (W.seq (W.seq (bn H fun R A H=>W.join (Jn f0 fun c l=>Own c G (es false bm (.slice b d e) 74 u8 i :: F)∧l= [(3,Q y),(4,I a),(23,B R)]) ?_ ?_))))
 ·clear H;refine rD [] (Kp G0 []) b0 ?_;intro p o0 u;have m1:Kp G0 [] p:=Kp.nil0;refine ta 0 (I a) (tx 1 (fun j f=>l1 b8 ((mm n) 0 _ rfl)) (tx 2 (fun j f=>ln 3 b8 g.m) (ta 3 (B (a==(i.length:Int))) ?_)));rcases bo (a==(i.length:Int)) with h | h
  ·obtain rfl:=orT h A;exact AC.takeb 4 h rfl (by kernel_rfl) (by kernel_rfl) (fun j f=>(by kernel_rfl)) (tp 5 (tp 6 (tp 7 (tp 8 (tp 9 (tp 10 (tp 11 (tp 12 (ta 13 (B true) (dn (nrm (jn p ⟨u,rfl⟩))))))))))))
  have o:=orF h A;refine bn o fun q D o=>AC.takeb 4 h rfl (by kernel_rfl) (by kernel_rfl) (fun j f=>(by kernel_rfl)) (tx 5 (fun j f=>l1 b8 ((mm n) 0 _ rfl)) (ta 6 (I a) ?_));obtain ⟨z0,j0,t0⟩:=Sl.at (g.mono (N.trans (P.trans o0))) (bl D);obtain rfl:=j0;refine tx 7 (fun j f=>ix b8 g.m D) (ta 8 (Qo (sb (.slice b d e)) (so (.slice b d e)+a.toNat * 3)) (tx 9 (fun j f=>l1 u_3 ((mm t0) 0 _ rfl)) (tx 10 (fun j f=>l1 dR ((mm m3) 0 _ rfl)) (ta 11 (I (w64 k)) (ta 12 (B (decide (q.1 > (w64 k)))) ?_)))));obtain rfl:=si o;exact ta 13 (B (decide (q.1 > (w64 k)))) (dn (nrm (jn p ⟨u,rfl⟩)))
 rintro e_ w_ ⟨z,i1,_,rfl,q0,rfl,x,rfl⟩;refine nrm (cn H (fun k0 H=>?_) (fun k0 H=>?_))
 ·refine sr (va (I 0) (wln (W.ret (thr ?_))));obtain rfl:=si H;have d0:=x.sD 1 [];exact r1 (qq z ⟨d0,rfl⟩)
 refine W.skip (nrm (sr (vx (l1 b8 ((mm n) 0 _ rfl)) (va (I a) (bn H fun S E H=>?_)))));obtain ⟨a1,l0,u0⟩:=Sl.at (g.mono (N.trans (P.trans q0))) (bl E);obtain rfl:=l0;refine vx (ix b8 g.m E) (va (Qo (sb (.slice b d e)) (so (.slice b d e)+a.toNat * 3+2)) (vx (l1 u_3 (u0 2 _ rfl)) (va (I S.2.2) (wln (W.ret ?_)))));obtain rfl:=si H;have e0:=x.sD 1 [];exact r1 (qq z ⟨e0,rfl⟩)
def bS:List (Int×Int×Int):=[(4352,4447,1),(8361,8361,3),(8986,8987,1),(9001,9002,1),(9193,9196,1),(9200,9200,1),(9203,9203,1),(9725,9726,1),(9748,9749,1),(9800,9811,1),(9855,9855,1),(9875,9875,1),(9889,9889,1),(9898,9899,1),(9917,9918,1),(9924,9925,1),(9934,9934,1),(9940,9940,1),(9962,9962,1),(9970,9971,1),(9973,9973,1),(9978,9978,1),(9981,9981,1),(9989,9989,1),(9994,9995,1),(10024,10024,1),(10060,10060,1),(10062,10062,1),(10067,10069,1),(10071,10071,1),(10133,10135,1),(10160,10160,1),(10175,10175,1),(11035,11036,1),(11088,11088,1),(11093,11093,1),(11904,11929,1),(11931,12019,1),(12032,12245,1),(12272,12287,1),(12288,12288,2),(12289,12350,1),(12353,12438,1),(12441,12543,1),(12549,12591,1),(12593,12686,1),(12688,12771,1),(12784,12830,1),(12832,12871,1),(12880,19903,1),(19968,42124,1),(42128,42182,1),(43360,43388,1),(44032,55203,1),(63744,64255,1),(65040,65049,1),(65072,65106,1),(65108,65126,1),(65128,65131,1),(65281,65376,2),(65377,65470,3),(65474,65479,3),(65482,65487,3),(65490,65495,3),(65498,65500,3),(65504,65510,2),(65512,65518,3),(94176,94180,1),(94208,100343,1),(100352,101589,1),(110592,110882,1),(126980,126980,1),(127183,127183,1),(127374,127374,1),(127377,127386,1),(127488,127490,1),(127504,127547,1),(127552,127560,1),(127568,127569,1),(127584,127589,1),(127744,127776,1),(127789,127797,1),(127799,127868,1),(127870,127891,1),(127904,127946,1),(127951,127955,1),(127968,127984,1),(127988,127988,1),(127992,128062,1),(128064,128064,1),(128066,128252,1),(128255,128317,1),(128331,128334,1),(128336,128359,1),(128378,128378,1),(128405,128406,1),(128420,128420,1),(128507,128591,1),(128640,128709,1),(128716,128716,1),(128720,128722,1),(128725,128727,1),(128732,128735,1),(128747,128748,1),(128756,128764,1),(128992,129003,1),(129008,129008,1),(129292,129338,1),(129340,129349,1),(129351,129535,1),(129648,129660,1),(129664,129672,1),(129680,129725,1),(129727,129733,1),(129742,129755,1),(129760,129768,1),(129776,129784,1),(131072,196605,1),(196608,262141,1)]
def cg:Option (List (Int×Int×Int)):=
 some bS
theorem fo (d:Own c0 G F) {r:List (Int×Int×Int)} (H:cg=some r): Calls prog 54 #[] c0.w (aR c0 fun c v=>∃a b,Own c G (es true bm a 74 b r :: F)∧v=a∧OA bm c a b r):=by
 unfold cg at H;refine en func54 rfl rfl (sr (va (Y) (wln (sr (va (aa 4352 4447 1) (va (aa 8361 8361 3) (va (aa 8986 8987 1) (va (aa 9001 9002 1) (va (aa 9193 9196 1) (va (aa 9200 9200 1) (va (aa 9203 9203 1) (va (aa 9725 9726 1) (va (aa 9748 9749 1) (va (aa 9800 9811 1) (va (aa 9855 9855 1) (va (aa 9875 9875 1) (va (aa 9889 9889 1) (va (aa 9898 9899 1) (va (aa 9917 9918 1) (va (aa 9924 9925 1) (va (aa 9934 9934 1) (va (aa 9940 9940 1) (va (aa 9962 9962 1) (va (aa 9970 9971 1) (va (aa 9973 9973 1) (va (aa 9978 9978 1) (va (aa 9981 9981 1) (va (aa 9989 9989 1) (va (aa 9994 9995 1) (va (aa 10024 10024 1) (va (aa 10060 10060 1) (va (aa 10062 10062 1) (va (aa 10067 10069 1) (va (aa 10071 10071 1) (va (aa 10133 10135 1) (va (aa 10160 10160 1) (va (aa 10175 10175 1) (va (aa 11035 11036 1) (va (aa 11088 11088 1) (va (aa 11093 11093 1) (va (aa 11904 11929 1) (va (aa 11931 12019 1) (va (aa 12032 12245 1) (va (aa 12272 12287 1) (va (aa 12288 12288 2) (va (aa 12289 12350 1) (va (aa 12353 12438 1) (va (aa 12441 12543 1) (va (aa 12549 12591 1) (va (aa 12593 12686 1) (va (aa 12688 12771 1) (va (aa 12784 12830 1) (va (aa 12832 12871 1) (va (aa 12880 19903 1) (va (aa 19968 42124 1) (va (aa 42128 42182 1) (va (aa 43360 43388 1) (va (aa 44032 55203 1) (va (aa 63744 64255 1) (va (aa 65040 65049 1) (va (aa 65072 65106 1) (va (aa 65108 65126 1) (va (aa 65128 65131 1) (va (aa 65281 65376 2) (va (aa 65377 65470 3) (va (aa 65474 65479 3) (va (aa 65482 65487 3) (va (aa 65490 65495 3) (va (aa 65498 65500 3) (va (aa 65504 65510 2) (va (aa 65512 65518 3) (va (aa 94176 94180 1) (va (aa 94208 100343 1) (va (aa 100352 101589 1) (va (aa 110592 110882 1) (va (aa 126980 126980 1) (va (aa 127183 127183 1) (va (aa 127374 127374 1) (va (aa 127377 127386 1) (va (aa 127488 127490 1) (va (aa 127504 127547 1) (va (aa 127552 127560 1) (va (aa 127568 127569 1) (va (aa 127584 127589 1) (va (aa 127744 127776 1) (va (aa 127789 127797 1) (va (aa 127799 127868 1) (va (aa 127870 127891 1) (va (aa 127904 127946 1) (va (aa 127951 127955 1) (va (aa 127968 127984 1) (va (aa 127988 127988 1) (va (aa 127992 128062 1) (va (aa 128064 128064 1) (va (aa 128066 128252 1) (va (aa 128255 128317 1) (va (aa 128331 128334 1) (va (aa 128336 128359 1) (va (aa 128378 128378 1) (va (aa 128405 128406 1) (va (aa 128420 128420 1) (va (aa 128507 128591 1) (va (aa 128640 128709 1) (va (aa 128716 128716 1) (va (aa 128720 128722 1) (va (aa 128725 128727 1) (va (aa 128732 128735 1) (va (aa 128747 128748 1) (va (aa 128756 128764 1) (va (aa 128992 129003 1) (va (aa 129008 129008 1) (va (aa 129292 129338 1) (va (aa 129340 129349 1) (va (aa 129351 129535 1) (va (aa 129648 129660 1) (va (aa 129664 129672 1) (va (aa 129680 129725 1) (va (aa 129727 129733 1) (va (aa 129742 129755 1) (va (aa 129760 129768 1) (va (aa 129776 129784 1) (va (aa 131072 196605 1) (va (aa 196608 262141 1) (me (Own.sl (R:=bm) (E:=74) (ls:=bS.map (fun x=>[I x.1,I x.2.1,I x.2.2])) (vs:=(bS.map (fun x=>[I x.1,I x.2.1,I x.2.2])).flatten) (xs:=bS) true d (bW _) rfl (dS.map _ (fun _=>rfl) _) (by kernel_rfl) (by kernel_rfl)) ?_))))))))))))))))))))))))))))))))))))))))))))))))))))))))))))))))))))))))))))))))))))))))))))))))))))))))))))))))))))))))))));rintro v5 f i ⟨h,e,g⟩;refine va (v5) (wln (W.ret ?_));obtain rfl:=si H;exact r1 (qq f ⟨v5,h,e,rfl,g⟩)
def cH (p0:Int) (q0_0:List (Int×Int×Int)) (q1_0:Int):Option (Bool):=
 (idx q0_0 p0).bind fun a=>
 some (decide (a.2.1≥(w64 q1_0)))
theorem fS {d:Nat} {e:Nat} (o:Own c0 G F) (b:Int) (q0_0:List (Int×Int×Int)) (q1_0:Int) {r:Bool} (s:∀j u,([v2]:List Value)[j]? = some u→Im c0 d (0+j) u) (k:Sl bm c0 v2 q0_0) (t:∀j u,([J q1_0]:List Value)[j]? = some u→Im c0 e (0+j) u) (H:cH b q0_0 q1_0=some r): Calls prog 85 #[I b,Q d,Q e] c0.w (aR c0 fun c v=>Own c G (F)∧v=B r):=by
 unfold cH at H;refine en func85 rfl rfl (sr (va (B false) (wln (W.seq (rD [] (Kp G0 []) o ?_)))));intro h q p;have y:Kp G0 [] h:=Kp.nil0;refine tx 0 (fun g a=>l1 b8 ((mm s) 0 _ rfl)) (ta 1 (I b) (bn H fun f l H=>?_));obtain ⟨x,i,n⟩:=Sl.at (k.mono q) (bl l);obtain rfl:=i;refine tx 2 (fun g a=>ix b8 k.m l) (ta 3 (Qo (sb v2) (so v2+b.toNat * 3+1)) (tx 4 (fun g a=>l1 u_3 ((mm n) 1 _ rfl)) (tx 5 (fun g a=>l1 dR ((mm t) 0 _ rfl)) (ta 6 (I (w64 q1_0)) (ta 7 (B (decide (f.2.1≥(w64 q1_0)))) (ta 8 (B (decide (f.2.1≥(w64 q1_0)))) (dn (nrm (W.ret ?_)))))))));obtain rfl:=si H;exact r1 (qq h ⟨p,rfl⟩)
def aZ (p0:Int) (p1_0_0:List (Int×Int×Int)) (p1_1_0:Int):Option (Int):=
 (cQ (σ:=Int×Int) (τ:=Int) ((p0 - 0).toNat+1) (fun a=>
 if (decide (a.1 < a.2))=true then
 (cH (w64 ((IntKind.u64.wrap (w64 (a.1+a.2))).fdiv (2 ^ 1))) p1_0_0 p1_1_0).bind fun b=>
 if (!b)=true then
 some (.inl ((w64 ((w64 ((IntKind.u64.wrap (w64 (a.1+a.2))).fdiv (2 ^ 1)))+1)),a.2))
 else
 some (.inl (a.1,(w64 ((IntKind.u64.wrap (w64 (a.1+a.2))).fdiv (2 ^ 1)))))
 else
 some (.inr (a.1))) (0,p0)).bind fun c=>
 some c
theorem db {b1_0:Nat} {b1_1:Nat} (A:Own c0 G F) (b:Int) (p1_0_0:List (Int×Int×Int)) (p1_1_0:Int) {r:Int} (N:∀j u,([v2]:List Value)[j]? = some u→Im c0 b1_0 (0+j) u) (M:Sl bm c0 v2 p1_0_0) (P:∀j u,([J p1_1_0]:List Value)[j]? = some u→Im c0 b1_1 (0+j) u) (H:aZ b p1_0_0 p1_1_0=some r): Calls prog 81 #[I b,.func (.func 85) #[] #[Q b1_0,Q b1_1]] c0.w (aR c0 fun c v=>Own c G (F)∧v=I r):=by
 unfold aZ at H;refine en func81 rfl rfl (sr (va (I 0) (wln (sr (va (I b) (va (I 0) (va (I b) (wln (W.seq (W.block (bn H fun g y k=>lp y (fun a=>Jn c0 fun c l=>Own c G (F)∧l= [(1,.func (.func 85) #[] #[Q b1_0,Q b1_1]),(5,I a.1),(6,I a.2)]) (fun h ex e w=>ex= .exit 0∧(Jn c0 fun c l=>Own c G (F)∧l= [(5,I h)]) e w) ?_ ?_ ?_)))))))))))
 ·clear k y;intro a X q z H;revert q z;rintro E R ⟨D,Z,_,rfl,l7,rfl,o,rfl⟩;refine W.seq (sr (va (I a.1) (va (I a.2) (va (B (decide (a.1 < a.2))) (wln (cn H (fun s H=>?_) (fun s H=>?_)))))))
  ·refine W.skip (nrm (W.block (sr (va (I a.1) (va (I a.2) (va (I (w64 (a.1+a.2))) (va (.int .u64 (IntKind.u64.wrap (w64 (a.1+a.2)))) (va (.int .u64 ((IntKind.u64.wrap (w64 (a.1+a.2))).fdiv (2 ^ 1))) (vv (I (w64 ((IntKind.u64.wrap (w64 (a.1+a.2))).fdiv (2 ^ 1)))) (wln (sr (va (.func (.func 85) #[] #[Q b1_0,Q b1_1]) (va (I (w64 ((IntKind.u64.wrap (w64 (a.1+a.2))).fdiv (2 ^ 1)))) (bn H fun i t H=>cl (fS o (w64 ((IntKind.u64.wrap (w64 (a.1+a.2))).fdiv (2 ^ 1))) p1_0_0 p1_1_0 (mm N) M.m (mm P) t) ?_))))))))))))));rintro v20 f T ⟨d,rfl⟩;refine va (B (!i)) (wln (cn H (fun x H=>?_) (fun x H=>?_)))
   ·refine W.region (va (I (w64 ((IntKind.u64.wrap (w64 (a.1+a.2))).fdiv (2 ^ 1)))) (vv (I (w64 ((w64 ((IntKind.u64.wrap (w64 (a.1+a.2))).fdiv (2 ^ 1)))+1))) (WL.nil (bkn ?_))));obtain rfl:=si H;exact ⟨_,rfl,jn f ⟨d,rfl⟩⟩
   refine W.region (vv (I (w64 ((IntKind.u64.wrap (w64 (a.1+a.2))).fdiv (2 ^ 1)))) (WL.nil (bkn ?_)));obtain rfl:=si H;exact ⟨_,rfl,jn f ⟨d,rfl⟩⟩
  refine W.exit (thx ?_);obtain rfl:=si H;exact ⟨_,rfl,rfl,jn D ⟨o,rfl⟩⟩
 ·exact jn c0 ⟨A,rfl⟩
 rintro _ E R ⟨rfl,p,S,_,rfl,U,rfl,n,rfl⟩;refine bke (nrm (sr (vv (I g) (wln (W.ret ?_)))));obtain rfl:=si k;exact r1 (qq p ⟨n,rfl⟩)
def dm (p0:Int):Option (Int):=
 (cg).bind fun a=>
 (aZ (a.length:Int) a p0).bind fun b=>
 (orE (b==(a.length:Int)) ((idx a b).bind fun d=>
 some (decide (d.1 > (w64 p0))))).bind fun c=>
 if c=true then
 some 0
 else
 (idx a b).bind fun e=>
 some e.2.2
theorem gJ (O0:Own c0 G F) (k:Int) {r:Int} (H:dm k=some r): Calls prog 45 #[J k] c0.w (aR c0 fun c v=>Own c G (F)∧v=I r):=by
 unfold dm at H;refine en func45 rfl rfl (sr (me (bx 21 [J k] O0) ?_));rintro v5 c4 l4 ⟨b1,rfl,O2,m3⟩;refine va (I 0) (wln (sr (bn H fun i h6 H=>cl (fo O2 h6) ?_)));rintro v7 d1 j1 ⟨_,u8,T,rfl,s⟩;refine me (al 72 [Y] T) ?_;rintro v19 e1 M ⟨y,rfl,U⟩;obtain ⟨b,d,e,rfl⟩:=((s.mono M)).form;refine md (sC 72 0 (.slice b d e) [.slice b d e] 0 U ⟨s.m.one,trivial⟩) ?_;rintro f1 m0 t;refine wln (sr (vx (le1 0 b8 (t.on 0 rfl)) (vx (lnO 3 b8 s.m) ?_)));obtain ⟨g1,g0,k1,X,g⟩:=t.frz 1 rfl (s.mono (M.trans m0));refine WL.gh g0 ?_;obtain ⟨h1,h0,N,Z,n⟩:=Own.frzB 0 X rfl;refine WL.gh h0 ?_;have a0:=Z.sD 2 [1];refine va (.func (.func 85) #[] #[Q y,Q b1]) (bn H fun a i0 H=>cl (db a0 (i.length:Int) i k n g.m (mm m3) i0) ?_);rintro v40 f0 P ⟨b0,rfl⟩;refine va (I a) (wln (W.seq (W.seq (bn H fun R A H=>W.join (Jn f0 fun c l=>Own c G (es false bm (.slice b d e) 74 u8 i :: F)∧l= [(3,Q y),(4,I a),(23,B R)]) ?_ ?_))))
 ·clear H;refine rD [] (Kp G0 []) b0 ?_;intro p o0 u;have m1:Kp G0 [] p:=Kp.nil0;refine ta 0 (I a) (tx 1 (fun j f=>l1 b8 ((mm n) 0 _ rfl)) (tx 2 (fun j f=>ln 3 b8 g.m) (ta 3 (B (a==(i.length:Int))) ?_)));rcases bo (a==(i.length:Int)) with h | h
  ·obtain rfl:=orT h A;exact AC.takeb 4 h rfl (by kernel_rfl) (by kernel_rfl) (fun j f=>(by kernel_rfl)) (tp 5 (tp 6 (tp 7 (tp 8 (tp 9 (tp 10 (tp 11 (tp 12 (ta 13 (B true) (dn (nrm (jn p ⟨u,rfl⟩))))))))))))
  have o:=orF h A;refine bn o fun q D o=>AC.takeb 4 h rfl (by kernel_rfl) (by kernel_rfl) (fun j f=>(by kernel_rfl)) (tx 5 (fun j f=>l1 b8 ((mm n) 0 _ rfl)) (ta 6 (I a) ?_));obtain ⟨z0,j0,t0⟩:=Sl.at (g.mono (N.trans (P.trans o0))) (bl D);obtain rfl:=j0;refine tx 7 (fun j f=>ix b8 g.m D) (ta 8 (Qo (sb (.slice b d e)) (so (.slice b d e)+a.toNat * 3)) (tx 9 (fun j f=>l1 u_3 ((mm t0) 0 _ rfl)) (tx 10 (fun j f=>l1 dR ((mm m3) 0 _ rfl)) (ta 11 (I (w64 k)) (ta 12 (B (decide (q.1 > (w64 k)))) ?_)))));obtain rfl:=si o;exact ta 13 (B (decide (q.1 > (w64 k)))) (dn (nrm (jn p ⟨u,rfl⟩)))
 rintro e_ w_ ⟨z,i1,_,rfl,q0,rfl,x,rfl⟩;refine nrm (cn H (fun k0 H=>?_) (fun k0 H=>?_))
 ·refine sr (va (I 0) (wln (W.ret (thr ?_))));obtain rfl:=si H;have d0:=x.sD 1 [];exact r1 (qq z ⟨d0,rfl⟩)
 refine W.skip (nrm (sr (vx (l1 b8 ((mm n) 0 _ rfl)) (va (I a) (bn H fun S E H=>?_)))));obtain ⟨a1,l0,u0⟩:=Sl.at (g.mono (N.trans (P.trans q0))) (bl E);obtain rfl:=l0;refine vx (ix b8 g.m E) (va (Qo (sb (.slice b d e)) (so (.slice b d e)+a.toNat * 3+2)) (vx (l1 u_3 (u0 2 _ rfl)) (va (I S.2.2) (wln (W.ret ?_)))));obtain rfl:=si H;have e0:=x.sD 1 [];exact r1 (qq z ⟨e0,rfl⟩)
def dk (p0:Int):Option (ae):=
 (dI p0).bind fun b=>
 (dl p0).bind fun c=>
 (dp p0).bind fun d=>
 (dm p0).bind fun a=>
 some (⟨b,c,d,a⟩:ae)
theorem fP (p:Own c0 G F) (a:Int) {r:ae} (H:dk a=some r): Calls prog 21 #[J a] c0.w (aR c0 fun c v=>Own c G (F)∧v= .agg #[I r.Break,B r.Pict,I r.Conj,I r.East]):=by
 unfold dk at H;refine en func21 rfl rfl (sr (me (al 33 [I 0,B false,I 0,I 0] p) ?_));rintro v4 R S ⟨P,rfl,q⟩;refine wln (sr (va (J a) (bn H fun d t H=>cl (ib q a t) ?_)));rintro v11 u A ⟨s,rfl⟩;refine va (J a) (bn H fun e m H=>cl (gI s a m) ?_);rintro v18 x D ⟨i,rfl⟩;refine va (J a) (bn H fun f n H=>cl (gK i a n) ?_);rintro v25 y E ⟨j,rfl⟩;refine va (J a) (bn H fun b o H=>cl (gJ j a o) ?_);rintro v32 z M ⟨k,rfl⟩;refine va (.agg #[I d,B e,I f,I b]) (md (sA 33 [I d,B e,I f,I b] 0 k ⟨rfl,rfl,rfl,rfl,trivial⟩) ?_);rintro h N g;refine wln (W.ret ?_);obtain rfl:=si H;have l:=g.sD 1 [];exact js (c:=h) (vs:=[I d,B e,I f,I b]) rfl (by kernel_rfl) (by kernel_rfl) (by kernel_rfl) (g.on 0 rfl _ rfl).1 ⟨_,h,rfl,rfl,pt,l,rfl⟩
def bh (p0:Int):Option (Int):=
 some (cu 0 (bt p0 1073741824))
theorem dW (b:Own c0 G F) (a:Int) {r:Int} (H:bh a=some r): Calls prog 17 #[I a] c0.w (aR c0 fun c v=>Own c G (F)∧v=I r):=by
 unfold bh at H;refine en func17 rfl rfl (sr (va (I 0) (wln (sr (va (I a) (va (I (bt a 1073741824)) (vv (I (cu 0 (bt a 1073741824))) (wln (W.ret ?_)))))))));obtain rfl:=si H;exact r1 (qq c0 ⟨b,rfl⟩)
def bA (p0:Int):Option (Int):=
 some (cu 1 (bt p0 1024))
theorem dx (b:Own c0 G F) (a:Int) {r:Int} (H:bA a=some r): Calls prog 19 #[I a] c0.w (aR c0 fun c v=>Own c G (F)∧v=I r):=by
 unfold bA at H;refine en func19 rfl rfl (sr (va (I 0) (wln (sr (va (I a) (va (I (bt a 1024)) (vv (I (cu 1 (bt a 1024))) (wln (W.ret ?_)))))))));obtain rfl:=si H;exact r1 (qq c0 ⟨b,rfl⟩)
def bB (p0:Int) (p1:Int):Option (Int):=
 (bh p0).bind fun b=>
 (bA p1).bind fun a=>
 if (b==0)=true then
 some 1
 else
 if (a==1)=true then
 some b
 else
 (dvg (w64 (a - 1))).bind fun c=>
 some (w64 ((w64 ((w64 ((w64 (2 * b))+a)) - 2)).tdiv (w64 (a - 1))))
theorem dy (m:Own c0 G F) (h:Int) (i:Int) {r:Int} (H:bB h i=some r): Calls prog 9 #[I h,I i] c0.w (aR c0 fun c v=>Own c G (F)∧v=I r):=by
 unfold bB at H;refine en func9 rfl rfl (sr (va (I 0) (wln (sr (va (I h) (bn H fun e o H=>cl (dW m h o) ?_))))));rintro v7 t u ⟨n,rfl⟩;refine va (I i) (bn H fun d p H=>cl (dx n i p) ?_);rintro v14 g s ⟨f,rfl⟩;refine va (I e) (va (I d) (wln (W.seq (W.block (sr (va (I e) (vv (B (e==0)) (wln (cn H (fun j H=>?_) (fun j H=>?_))))))))))
 ·refine sr (va (I 1) (wln (W.ret (bkr (thr ?_)))));obtain rfl:=si H;exact r1 (qq g ⟨f,rfl⟩)
 refine sr (va (I d) (vv (B (d==1)) (wln (cn H (fun k H=>?_) (fun k H=>?_)))))
 ·refine sr (vv (I e) (wln (W.ret (bkr (thr ?_)))));obtain rfl:=si H;exact r1 (qq g ⟨f,rfl⟩)
 refine W.skip (bkn (nrm (sr (va (I e) (va (I (w64 (2 * e))) (va (I d) (va (I (w64 ((w64 (2 * e))+d))) (va (I (w64 ((w64 ((w64 (2 * e))+d)) - 2))) (va (I d) (va (I (w64 (d - 1))) (bn H fun q l H=>vr (I (w64 ((w64 ((w64 ((w64 (2 * e))+d)) - 2)).tdiv (w64 (d - 1))))) (ir (a:=(w64 ((w64 ((w64 (2 * e))+d)) - 2))) (b:=(w64 (d - 1))) l (by kernel_rfl) _) (va (I (w64 ((w64 ((w64 ((w64 (2 * e))+d)) - 2)).tdiv (w64 (d - 1))))) (wln (W.ret ?_))))))))))))));obtain rfl:=si H;exact r1 (qq g ⟨f,rfl⟩)
def bE (p0:Int):Option (Int):=
 (bh p0).bind fun a=>
 some (w64 (2 * a))
theorem eA (d:Own c0 G F) (a:Int) {r:Int} (H:bE a=some r): Calls prog 7 #[I a] c0.w (aR c0 fun c v=>Own c G (F)∧v=I r):=by
 unfold bE at H;refine en func7 rfl rfl (sr (va (I 0) (wln (sr (va (I a) (bn H fun b g H=>cl (dW d a g) ?_))))));rintro v7 f h ⟨e,rfl⟩;refine vv (I (w64 (2 * b))) (wln (W.ret ?_));obtain rfl:=si H;exact r1 (qq f ⟨e,rfl⟩)
def dw (p0:Int) (p1:Int):Option (Int):=
 (bA p0).bind fun a=>
 (bA p1).bind fun b=>
 some (w64 ((w64 (a * b)) * 16))
theorem ft (h:Own c0 G F) (d:Int) (e:Int) {r:Int} (H:dw d e=some r): Calls prog 15 #[I d,I e] c0.w (aR c0 fun c v=>Own c G (F)∧v=I r):=by
 unfold dw at H;refine en func15 rfl rfl (sr (va (I 0) (wln (sr (va (I d) (bn H fun a j H=>cl (dx h d j) ?_))))));rintro v7 m n ⟨i,rfl⟩;refine va (I e) (bn H fun b k H=>cl (dx i e k) ?_);rintro v14 g l ⟨f,rfl⟩;refine va (I (w64 (a * b))) (vv (I (w64 ((w64 (a * b)) * 16))) (wln (W.ret ?_)));obtain rfl:=si H;exact r1 (qq g ⟨f,rfl⟩)
def aW:Option (Bool):=
 (dw 80 24).bind fun d=>
 (cy (d==30720) ((bB 3 3).bind fun e=>
 some (e==3))).bind fun b=>
 (cy b ((bB 0 9).bind fun a=>
 some (a==1))).bind fun c=>
 some c
theorem cv (z:Own c0 G F) {r:Bool} (H:aW=some r): Calls prog 5 #[] c0.w (aR c0 fun c v=>Own c G (F)∧v=B r):=by
 unfold aW at H;refine en func5 rfl rfl (sr (va (B false) (wln (W.seq (bn H fun j D H=>bn H fun E x H=>bn H fun t k H=>W.join (Jn c0 fun c l=>Own c G (F)∧l= [(0,B t)]) ?_ ?_)))))
 ·clear H;refine W.region (cl (ft z 80 24 D) ?_);rintro v9 A T ⟨o,rfl⟩;refine va (B (j==30720)) ?_;rcases bo (j==30720) with a | a
  ·have e:=anT a x;refine vb a (wn (bn e fun g u e=>cl (dy o 3 3 u) ?_));rintro v18 p N ⟨h,rfl⟩;refine wa (B (g==3)) ?_;obtain rfl:=si e;refine va (B (g==3)) ?_;rcases bo (g==3) with b | b
   ·have f:=anT b k;refine vb b (wn (bn f fun d y f=>cl (dy h 0 9 y) ?_));rintro v27 q P ⟨m,rfl⟩;refine wa (B (d==1)) ?_;obtain rfl:=si f;exact vv (B (d==1)) (wln (jn q ⟨m,rfl⟩))
   obtain rfl:=anF b k;exact vb b (pz (vv (B false) (wln (jn p ⟨h,rfl⟩))))
  obtain rfl:=anF a x;refine vb a (pz (va (B false) ?_));have i:false=false:=rfl;obtain rfl:=anF i k;exact vb i (pz (vv (B false) (wln (jn A ⟨o,rfl⟩))))
 rintro S U ⟨s,M,_,rfl,R,rfl,n,rfl⟩;refine nrm (W.ret ?_);obtain rfl:=si H;exact r1 (qq s ⟨n,rfl⟩)
def aQ (p0:Int):Option (Bool):=
 (cy (decide (p0≥0)) (some (decide (p0 < 32)))).bind fun b=>
 (orE b ((cy (decide (p0≥127)) (some (decide (p0≤159)))).bind fun a=>
 some a)).bind fun c=>
 some c
theorem dL (e:Own c0 G F) (a:Int) {r:Bool} (H:aQ a=some r): Calls prog 40 #[J a] c0.w (aR c0 fun c v=>Own c G (F)∧v=B r):=by
 unfold aQ at H;refine en func40 rfl rfl (sr (va (B false) (wln (W.seq (bn H fun z t H=>bn H fun s n H=>W.join (Jn c0 fun c l=>Own c G (F)∧l= [(2,B s)]) ?_ ?_)))))
 ·clear H;refine W.region (va (J a) (va (B (decide (a≥0))) ?_));rcases bo (decide (a≥0)) with f | f
  ·have x:=anT f t;refine vb f (wa (J a) (wa (B (decide (a < 32))) ?_));obtain rfl:=si x;refine va (B (decide (a < 32))) ?_;rcases bo (decide (a < 32)) with g | g
   ·obtain rfl:=orT g n;exact vb g (pz (pz (pz (vv (B true) (wln (jn c0 ⟨e,rfl⟩))))))
   have i:=orF g n;refine vb g (wa (J a) (wa (B (decide (a≥127))) (wn (bn i fun m u i=>?_))));rcases bo (decide (a≥127)) with h | h
   ·have y:=anT h u;refine vb h (wa (J a) (wa (B (decide (a≤159))) (wn ?_)));obtain rfl:=si y;refine va (B (decide (a≤159))) ?_;obtain rfl:=si i;exact vv (B (decide (a≤159))) (wln (jn c0 ⟨e,rfl⟩))
   obtain rfl:=anF h u;refine vb h (pz (wa (B false) ?_));obtain rfl:=si i;exact vv (B false) (wln (jn c0 ⟨e,rfl⟩))
  obtain rfl:=anF f t;refine vb f (pz (va (B false) ?_));have j:false=false:=rfl;have d:=orF j n;refine vb j (wa (J a) (wa (B (decide (a≥127))) (wn (bn d fun m k d=>?_))));rcases bo (decide (a≥127)) with b | b
  ·have o:=anT b k;refine vb b (wa (J a) (wa (B (decide (a≤159))) (wn ?_)));obtain rfl:=si o;refine va (B (decide (a≤159))) ?_;obtain rfl:=si d;exact vv (B (decide (a≤159))) (wln (jn c0 ⟨e,rfl⟩))
  obtain rfl:=anF b k;refine vb b (pz (wa (B false) ?_));obtain rfl:=si d;exact vv (B false) (wln (jn c0 ⟨e,rfl⟩))
 rintro E M ⟨q,A,_,rfl,D,rfl,p,rfl⟩;refine nrm (W.ret ?_);obtain rfl:=si H;exact r1 (qq q ⟨p,rfl⟩)
def aC (p0:ad):Option (Int):=
 if false=true then
 some 0
 else
 some p0.n
theorem bJ {b:Nat} (a:ad) (e:Own c0 G ((Eb b 104 [J a.text.1,J a.text.2.1,J a.text.2.2.1,J a.text.2.2.2.1,J a.text.2.2.2.2.1,J a.text.2.2.2.2.2.1,J a.text.2.2.2.2.2.2.1,J a.text.2.2.2.2.2.2.2.1,J a.text.2.2.2.2.2.2.2.2.1,J a.text.2.2.2.2.2.2.2.2.2.1,J a.text.2.2.2.2.2.2.2.2.2.2.1,J a.text.2.2.2.2.2.2.2.2.2.2.2.1,J a.text.2.2.2.2.2.2.2.2.2.2.2.2.1,J a.text.2.2.2.2.2.2.2.2.2.2.2.2.2.1,J a.text.2.2.2.2.2.2.2.2.2.2.2.2.2.2.1,J a.text.2.2.2.2.2.2.2.2.2.2.2.2.2.2.2,I a.n]) :: F)) {r:Int} (H:aC a=some r): Calls prog 120 #[Q b] c0.w (aR c0 fun c v=>Own c G ((Eb b 104 [J a.text.1,J a.text.2.1,J a.text.2.2.1,J a.text.2.2.2.1,J a.text.2.2.2.2.1,J a.text.2.2.2.2.2.1,J a.text.2.2.2.2.2.2.1,J a.text.2.2.2.2.2.2.2.1,J a.text.2.2.2.2.2.2.2.2.1,J a.text.2.2.2.2.2.2.2.2.2.1,J a.text.2.2.2.2.2.2.2.2.2.2.1,J a.text.2.2.2.2.2.2.2.2.2.2.2.1,J a.text.2.2.2.2.2.2.2.2.2.2.2.2.1,J a.text.2.2.2.2.2.2.2.2.2.2.2.2.2.1,J a.text.2.2.2.2.2.2.2.2.2.2.2.2.2.2.1,J a.text.2.2.2.2.2.2.2.2.2.2.2.2.2.2.2,I a.n]) :: F)∧v=I r):=by
 unfold aC at H;refine en func120 rfl rfl (sr (va (I 0) (wln (W.seq (sr (va (Q b) (va (B false) (wln (W.cond (t:=false) (by kernel_rfl) (fun d=>?_) (fun d=>?_))))))))))
 ·cases d
 have H:=ie d H;refine W.skip (nrm (sr (vv (Q b) (va (Qo b 16) (vx (le1 16 u_3 (e.on 0 rfl)) (va (I a.n) (wln (W.ret ?_))))))));obtain rfl:=si H;exact r1 (qq c0 ⟨e,rfl⟩)
def aB (p0:ad):Option (Bool):=
 (aC p0).bind fun a=>
 some (a==16)
theorem bG {b:Nat} (a:ad) (e:Own c0 G ((Eb b 104 [J a.text.1,J a.text.2.1,J a.text.2.2.1,J a.text.2.2.2.1,J a.text.2.2.2.2.1,J a.text.2.2.2.2.2.1,J a.text.2.2.2.2.2.2.1,J a.text.2.2.2.2.2.2.2.1,J a.text.2.2.2.2.2.2.2.2.1,J a.text.2.2.2.2.2.2.2.2.2.1,J a.text.2.2.2.2.2.2.2.2.2.2.1,J a.text.2.2.2.2.2.2.2.2.2.2.2.1,J a.text.2.2.2.2.2.2.2.2.2.2.2.2.1,J a.text.2.2.2.2.2.2.2.2.2.2.2.2.2.1,J a.text.2.2.2.2.2.2.2.2.2.2.2.2.2.2.1,J a.text.2.2.2.2.2.2.2.2.2.2.2.2.2.2.2,I a.n]) :: F)) {r:Bool} (H:aB a=some r): Calls prog 104 #[Q b] c0.w (aR c0 fun c v=>Own c G ((Eb b 104 [J a.text.1,J a.text.2.1,J a.text.2.2.1,J a.text.2.2.2.1,J a.text.2.2.2.2.1,J a.text.2.2.2.2.2.1,J a.text.2.2.2.2.2.2.1,J a.text.2.2.2.2.2.2.2.1,J a.text.2.2.2.2.2.2.2.2.1,J a.text.2.2.2.2.2.2.2.2.2.1,J a.text.2.2.2.2.2.2.2.2.2.2.1,J a.text.2.2.2.2.2.2.2.2.2.2.2.1,J a.text.2.2.2.2.2.2.2.2.2.2.2.2.1,J a.text.2.2.2.2.2.2.2.2.2.2.2.2.2.1,J a.text.2.2.2.2.2.2.2.2.2.2.2.2.2.2.1,J a.text.2.2.2.2.2.2.2.2.2.2.2.2.2.2.2,I a.n]) :: F)∧v=B r):=by
 unfold aB at H;refine en func104 rfl rfl (sr (va (B false) (wln (sr (va (Q b) (bn H fun d h H=>cl (bJ a e h) ?_))))));rintro v8 g i ⟨f,rfl⟩;refine vv (B (d==16)) (wln (W.ret ?_));obtain rfl:=si H;exact r1 (qq g ⟨f,rfl⟩)
def ag (p0:ad) (p1:Int):Option (ad×Bool):=
 (orE false ((aB p0).bind fun c=>
 some c)).bind fun b=>
 if b=true then
 some (p0,false)
 else
 (idx (a16 p0.text) p0.n).bind fun d=>
 (some (ge p0.text p0.n p1)).bind fun a=>
 some ((⟨a,(w64 (p0.n+1))⟩:ad),true)
theorem bK {d:Nat} (a:ad) (f:Int) (M:Own c0 G ((Eb d 104 [J a.text.1,J a.text.2.1,J a.text.2.2.1,J a.text.2.2.2.1,J a.text.2.2.2.2.1,J a.text.2.2.2.2.2.1,J a.text.2.2.2.2.2.2.1,J a.text.2.2.2.2.2.2.2.1,J a.text.2.2.2.2.2.2.2.2.1,J a.text.2.2.2.2.2.2.2.2.2.1,J a.text.2.2.2.2.2.2.2.2.2.2.1,J a.text.2.2.2.2.2.2.2.2.2.2.2.1,J a.text.2.2.2.2.2.2.2.2.2.2.2.2.1,J a.text.2.2.2.2.2.2.2.2.2.2.2.2.2.1,J a.text.2.2.2.2.2.2.2.2.2.2.2.2.2.2.1,J a.text.2.2.2.2.2.2.2.2.2.2.2.2.2.2.2,I a.n]) :: F)) {r:ad×Bool} (H:ag a f=some r): Calls prog 97 #[Q d,J f] c0.w (aR c0 fun c v=>Own c G ((Eb d 104 [J r.1.text.1,J r.1.text.2.1,J r.1.text.2.2.1,J r.1.text.2.2.2.1,J r.1.text.2.2.2.2.1,J r.1.text.2.2.2.2.2.1,J r.1.text.2.2.2.2.2.2.1,J r.1.text.2.2.2.2.2.2.2.1,J r.1.text.2.2.2.2.2.2.2.2.1,J r.1.text.2.2.2.2.2.2.2.2.2.1,J r.1.text.2.2.2.2.2.2.2.2.2.2.1,J r.1.text.2.2.2.2.2.2.2.2.2.2.2.1,J r.1.text.2.2.2.2.2.2.2.2.2.2.2.2.1,J r.1.text.2.2.2.2.2.2.2.2.2.2.2.2.2.1,J r.1.text.2.2.2.2.2.2.2.2.2.2.2.2.2.2.1,J r.1.text.2.2.2.2.2.2.2.2.2.2.2.2.2.2.2,I r.1.n]) :: F)∧v=B r.2):=by
 unfold ag at H;refine en func97 rfl rfl (sr (va (B false) (wln (W.seq (W.seq (bn H fun u R H=>W.join (Jn c0 fun c l=>Own c G ((Eb d 104 [J a.text.1,J a.text.2.1,J a.text.2.2.1,J a.text.2.2.2.1,J a.text.2.2.2.2.1,J a.text.2.2.2.2.2.1,J a.text.2.2.2.2.2.2.1,J a.text.2.2.2.2.2.2.2.1,J a.text.2.2.2.2.2.2.2.2.1,J a.text.2.2.2.2.2.2.2.2.2.1,J a.text.2.2.2.2.2.2.2.2.2.2.1,J a.text.2.2.2.2.2.2.2.2.2.2.2.1,J a.text.2.2.2.2.2.2.2.2.2.2.2.2.1,J a.text.2.2.2.2.2.2.2.2.2.2.2.2.2.1,J a.text.2.2.2.2.2.2.2.2.2.2.2.2.2.2.1,J a.text.2.2.2.2.2.2.2.2.2.2.2.2.2.2.2,I a.n]) :: F)∧l= [(0,Q d),(1,J f),(10,B u)]) ?_ ?_))))))
 ·clear H;refine W.region (va (Q d) (va (B false) ?_));have y:false=false:=rfl;have m:=orF y R;refine vb y (wa (Q d) (wn (bn m fun E S m=>cl (bG a M S) ?_)));rintro v11 p b0 ⟨N,rfl⟩;obtain rfl:=si m;exact va (B E) (wln (jn p ⟨N,rfl⟩))
 rintro e_ w_ ⟨q,a0,_,rfl,d0,rfl,g,rfl⟩;refine nrm (cn H (fun x H=>?_) (fun x H=>?_))
 ·refine sr (va (B false) (wln (W.ret (thr ?_))));obtain rfl:=si H;exact r1 (qq q ⟨g,rfl⟩)
 refine W.skip (nrm (W.seq (rD [9] (Kp G0 [(Eb d 104 [J a.text.1,J a.text.2.1,J a.text.2.2.1,J a.text.2.2.2.1,J a.text.2.2.2.2.1,J a.text.2.2.2.2.2.1,J a.text.2.2.2.2.2.2.1,J a.text.2.2.2.2.2.2.2.1,J a.text.2.2.2.2.2.2.2.2.1,J a.text.2.2.2.2.2.2.2.2.2.1,J a.text.2.2.2.2.2.2.2.2.2.2.1,J a.text.2.2.2.2.2.2.2.2.2.2.2.1,J a.text.2.2.2.2.2.2.2.2.2.2.2.2.1,J a.text.2.2.2.2.2.2.2.2.2.2.2.2.2.1,J a.text.2.2.2.2.2.2.2.2.2.2.2.2.2.2.1,J a.text.2.2.2.2.2.2.2.2.2.2.2.2.2.2.2,I a.n])]) g ?_)));intro s e0 h;have D:Kp G0 [(Eb d 104 [J a.text.1,J a.text.2.1,J a.text.2.2.1,J a.text.2.2.2.1,J a.text.2.2.2.2.1,J a.text.2.2.2.2.2.1,J a.text.2.2.2.2.2.2.1,J a.text.2.2.2.2.2.2.2.1,J a.text.2.2.2.2.2.2.2.2.1,J a.text.2.2.2.2.2.2.2.2.2.1,J a.text.2.2.2.2.2.2.2.2.2.2.1,J a.text.2.2.2.2.2.2.2.2.2.2.2.1,J a.text.2.2.2.2.2.2.2.2.2.2.2.2.1,J a.text.2.2.2.2.2.2.2.2.2.2.2.2.2.1,J a.text.2.2.2.2.2.2.2.2.2.2.2.2.2.2.1,J a.text.2.2.2.2.2.2.2.2.2.2.2.2.2.2.2,I a.n])] s:=(Kp.cons (h.on 0 rfl) Kp.nil0);refine ta 0 (Q d) (ta 1 (Q d) (ta 2 (Q d) (ta 3 (Qo d 16) (tkx 4 D (fun P A U=>le1 16 u_3 (U.on 0 rfl)) (ta 5 (J f) (ta 6 (Q d) (ta 7 (Q d) (bn H fun X e H=>AC.take 8 (.pointer (some ⟨d,0+a.n.toNat * 1,none⟩)) rfl (by kernel_rfl) (by kernel_rfl) (fun P A=>(rx (by kernel_rfl) (f9 (k:= .i64) underlying102 (by kernel_rfl) (ej e).1 (ej e).2 _))) (bn H fun b z H=>o1 9 (gD 9 (Own.st (T:=21) (j:=0+a.n.toNat * 1) (us:=[J f]) (nw:=[J b.1,J b.2.1,J b.2.2.1,J b.2.2.2.1,J b.2.2.2.2.1,J b.2.2.2.2.2.1,J b.2.2.2.2.2.2.1,J b.2.2.2.2.2.2.2.1,J b.2.2.2.2.2.2.2.2.1,J b.2.2.2.2.2.2.2.2.2.1,J b.2.2.2.2.2.2.2.2.2.2.1,J b.2.2.2.2.2.2.2.2.2.2.2.1,J b.2.2.2.2.2.2.2.2.2.2.2.2.1,J b.2.2.2.2.2.2.2.2.2.2.2.2.2.1,J b.2.2.2.2.2.2.2.2.2.2.2.2.2.2.1,J b.2.2.2.2.2.2.2.2.2.2.2.2.2.2.2,I a.n]) (v:=J f) 0 h (by kernel_rfl) rfl rfl rfl rfl (by kernel_rfl) ⟨rfl,trivial⟩ (jM e (ai rfl)) (jr (k:= .i32) e z [] [I a.n])) ?_))))))))));rintro Z f0 i;refine ⟨.inl rfl,dn (nrm (sr (vv (Q d) (va (Qo d 16) (vx (le1 16 u_3 (i.on 0 rfl)) (va (I (w64 (a.n+1))) (va (Q d) (va (Qo d 16) (md (sC 3 16 (I (w64 (a.n+1))) [J b.1,J b.2.1,J b.2.2.1,J b.2.2.2.1,J b.2.2.2.2.1,J b.2.2.2.2.2.1,J b.2.2.2.2.2.2.1,J b.2.2.2.2.2.2.2.1,J b.2.2.2.2.2.2.2.2.1,J b.2.2.2.2.2.2.2.2.2.1,J b.2.2.2.2.2.2.2.2.2.2.1,J b.2.2.2.2.2.2.2.2.2.2.2.1,J b.2.2.2.2.2.2.2.2.2.2.2.2.1,J b.2.2.2.2.2.2.2.2.2.2.2.2.2.1,J b.2.2.2.2.2.2.2.2.2.2.2.2.2.2.1,J b.2.2.2.2.2.2.2.2.2.2.2.2.2.2.2,I (w64 (a.n+1))] 0 i ⟨rfl,trivial⟩) ?_)))))))))⟩;rintro t g0 o;refine wln (sr (va (B true) (wln (W.ret ?_))));obtain rfl:=si H;exact r1 (qq t ⟨o,rfl⟩)
def cj (p0:List Int):Option (ad):=
 (cQ (σ:=Int×Int×Int×Int×Int×Int×Int×Int×Int×Int×Int×Int×Int×Int×Int×Int×Int×Int) (τ:=(Int×Int×Int×Int×Int×Int×Int×Int×Int×Int×Int×Int×Int×Int×Int×Int×Int)) (((p0.length:Int) - 0).toNat+1) (fun b=>
 if (decide (b.1 < (p0.length:Int)))=true then
 (idx p0 b.1).bind fun d=>
 (ag (⟨(b.2.1,b.2.2.1,b.2.2.2.1,b.2.2.2.2.1,b.2.2.2.2.2.1,b.2.2.2.2.2.2.1,b.2.2.2.2.2.2.2.1,b.2.2.2.2.2.2.2.2.1,b.2.2.2.2.2.2.2.2.2.1,b.2.2.2.2.2.2.2.2.2.2.1,b.2.2.2.2.2.2.2.2.2.2.2.1,b.2.2.2.2.2.2.2.2.2.2.2.2.1,b.2.2.2.2.2.2.2.2.2.2.2.2.2.1,b.2.2.2.2.2.2.2.2.2.2.2.2.2.2.1,b.2.2.2.2.2.2.2.2.2.2.2.2.2.2.2.1,b.2.2.2.2.2.2.2.2.2.2.2.2.2.2.2.2.1),b.2.2.2.2.2.2.2.2.2.2.2.2.2.2.2.2.2⟩:ad) d).bind fun a=>
 if (!a.2)=true then
 some (.inr (a.1.text.1,a.1.text.2.1,a.1.text.2.2.1,a.1.text.2.2.2.1,a.1.text.2.2.2.2.1,a.1.text.2.2.2.2.2.1,a.1.text.2.2.2.2.2.2.1,a.1.text.2.2.2.2.2.2.2.1,a.1.text.2.2.2.2.2.2.2.2.1,a.1.text.2.2.2.2.2.2.2.2.2.1,a.1.text.2.2.2.2.2.2.2.2.2.2.1,a.1.text.2.2.2.2.2.2.2.2.2.2.2.1,a.1.text.2.2.2.2.2.2.2.2.2.2.2.2.1,a.1.text.2.2.2.2.2.2.2.2.2.2.2.2.2.1,a.1.text.2.2.2.2.2.2.2.2.2.2.2.2.2.2.1,a.1.text.2.2.2.2.2.2.2.2.2.2.2.2.2.2.2,a.1.n))
 else
 some (.inl ((w64 (b.1+1)),a.1.text.1,a.1.text.2.1,a.1.text.2.2.1,a.1.text.2.2.2.1,a.1.text.2.2.2.2.1,a.1.text.2.2.2.2.2.1,a.1.text.2.2.2.2.2.2.1,a.1.text.2.2.2.2.2.2.2.1,a.1.text.2.2.2.2.2.2.2.2.1,a.1.text.2.2.2.2.2.2.2.2.2.1,a.1.text.2.2.2.2.2.2.2.2.2.2.1,a.1.text.2.2.2.2.2.2.2.2.2.2.2.1,a.1.text.2.2.2.2.2.2.2.2.2.2.2.2.1,a.1.text.2.2.2.2.2.2.2.2.2.2.2.2.2.1,a.1.text.2.2.2.2.2.2.2.2.2.2.2.2.2.2.1,a.1.text.2.2.2.2.2.2.2.2.2.2.2.2.2.2.2,a.1.n))
 else
 some (.inr (b.2.1,b.2.2.1,b.2.2.2.1,b.2.2.2.2.1,b.2.2.2.2.2.1,b.2.2.2.2.2.2.1,b.2.2.2.2.2.2.2.1,b.2.2.2.2.2.2.2.2.1,b.2.2.2.2.2.2.2.2.2.1,b.2.2.2.2.2.2.2.2.2.2.1,b.2.2.2.2.2.2.2.2.2.2.2.1,b.2.2.2.2.2.2.2.2.2.2.2.2.1,b.2.2.2.2.2.2.2.2.2.2.2.2.2.1,b.2.2.2.2.2.2.2.2.2.2.2.2.2.2.1,b.2.2.2.2.2.2.2.2.2.2.2.2.2.2.2.1,b.2.2.2.2.2.2.2.2.2.2.2.2.2.2.2.2.1,b.2.2.2.2.2.2.2.2.2.2.2.2.2.2.2.2.2))) (0,0,0,0,0,0,0,0,0,0,0,0,0,0,0,0,0,0)).bind fun c=>
 some (⟨(c.1,c.2.1,c.2.2.1,c.2.2.2.1,c.2.2.2.2.1,c.2.2.2.2.2.1,c.2.2.2.2.2.2.1,c.2.2.2.2.2.2.2.1,c.2.2.2.2.2.2.2.2.1,c.2.2.2.2.2.2.2.2.2.1,c.2.2.2.2.2.2.2.2.2.2.1,c.2.2.2.2.2.2.2.2.2.2.2.1,c.2.2.2.2.2.2.2.2.2.2.2.2.1,c.2.2.2.2.2.2.2.2.2.2.2.2.2.1,c.2.2.2.2.2.2.2.2.2.2.2.2.2.2.1,c.2.2.2.2.2.2.2.2.2.2.2.2.2.2.2.1),c.2.2.2.2.2.2.2.2.2.2.2.2.2.2.2.2⟩:ad)
theorem fq (Z:Own c0 G F) (i:List Int) {r:ad} (z:Sl (RI .i32) c0 v1 i) (H:cj i=some r): Calls prog 78 #[v1] c0.w (aR c0 fun c v=>Own c G (F)∧v= .agg #[J r.text.1,J r.text.2.1,J r.text.2.2.1,J r.text.2.2.2.1,J r.text.2.2.2.2.1,J r.text.2.2.2.2.2.1,J r.text.2.2.2.2.2.2.1,J r.text.2.2.2.2.2.2.2.1,J r.text.2.2.2.2.2.2.2.2.1,J r.text.2.2.2.2.2.2.2.2.2.1,J r.text.2.2.2.2.2.2.2.2.2.2.1,J r.text.2.2.2.2.2.2.2.2.2.2.2.1,J r.text.2.2.2.2.2.2.2.2.2.2.2.2.1,J r.text.2.2.2.2.2.2.2.2.2.2.2.2.2.1,J r.text.2.2.2.2.2.2.2.2.2.2.2.2.2.2.1,J r.text.2.2.2.2.2.2.2.2.2.2.2.2.2.2.2,I r.n]):=by
 unfold cj at H;refine en func78 rfl rfl (sr (me (al 104 [J 0,J 0,J 0,J 0,J 0,J 0,J 0,J 0,J 0,J 0,J 0,J 0,J 0,J 0,J 0,J 0,I 0] Z) ?_));rintro v6 c5 l5 ⟨g,rfl,O4⟩;refine wln (sr (me (al 104 [J 0,J 0,J 0,J 0,J 0,J 0,J 0,J 0,J 0,J 0,J 0,J 0,J 0,J 0,J 0,J 0,I 0] O4) ?_));rintro v10 y l9 ⟨h,rfl,O8⟩;refine wln (W.seq (sr (va (v1) (vx (ln 3 cC z.m) (va (I 0) (wln (W.block (bn H fun a u j=>lp u (fun b=>Jn y fun c l=>Own c G ((Eb h 104 [J b.2.1,J b.2.2.1,J b.2.2.2.1,J b.2.2.2.2.1,J b.2.2.2.2.2.1,J b.2.2.2.2.2.2.1,J b.2.2.2.2.2.2.2.1,J b.2.2.2.2.2.2.2.2.1,J b.2.2.2.2.2.2.2.2.2.1,J b.2.2.2.2.2.2.2.2.2.2.1,J b.2.2.2.2.2.2.2.2.2.2.2.1,J b.2.2.2.2.2.2.2.2.2.2.2.2.1,J b.2.2.2.2.2.2.2.2.2.2.2.2.2.1,J b.2.2.2.2.2.2.2.2.2.2.2.2.2.2.1,J b.2.2.2.2.2.2.2.2.2.2.2.2.2.2.2.1,J b.2.2.2.2.2.2.2.2.2.2.2.2.2.2.2.2.1,I b.2.2.2.2.2.2.2.2.2.2.2.2.2.2.2.2.2]) :: (Eb g 104 [J 0,J 0,J 0,J 0,J 0,J 0,J 0,J 0,J 0,J 0,J 0,J 0,J 0,J 0,J 0,J 0,I 0]) :: F)∧l= [(2,Q g),(3,Q h),(6,v1),(7,I (i.length:Int)),(8,I b.1)]) (fun d ex e w=>ex= .exit 0∧(Jn y fun c l=>Own c G ((Eb h 104 [J d.1,J d.2.1,J d.2.2.1,J d.2.2.2.1,J d.2.2.2.2.1,J d.2.2.2.2.2.1,J d.2.2.2.2.2.2.1,J d.2.2.2.2.2.2.2.1,J d.2.2.2.2.2.2.2.2.1,J d.2.2.2.2.2.2.2.2.2.1,J d.2.2.2.2.2.2.2.2.2.2.1,J d.2.2.2.2.2.2.2.2.2.2.2.1,J d.2.2.2.2.2.2.2.2.2.2.2.2.1,J d.2.2.2.2.2.2.2.2.2.2.2.2.2.1,J d.2.2.2.2.2.2.2.2.2.2.2.2.2.2.1,J d.2.2.2.2.2.2.2.2.2.2.2.2.2.2.2.1,I d.2.2.2.2.2.2.2.2.2.2.2.2.2.2.2.2]) :: (Eb g 104 [J 0,J 0,J 0,J 0,J 0,J 0,J 0,J 0,J 0,J 0,J 0,J 0,J 0,J 0,J 0,J 0,I 0]) :: F)∧l= [(2,Q g),(3,Q h)]) e w) ?_ ?_ ?_))))))))
 ·clear j u;intro b q0 M X H;revert M X;rintro e_ w_ ⟨E,j0,_,rfl,T,rfl,k,rfl⟩;refine sr (va (B (decide (b.1 < (i.length:Int)))) (wln (W.seq (cn H (fun N H=>?_) (fun N H=>?_)))))
  ·refine W.skip (nrm (W.seq (W.block (sr (bn H fun f x H=>?_)))));obtain ⟨g0,P,U⟩:=Sl.at (z.mono (l5.trans (l9.trans T))) (bl x);obtain rfl:=P;refine vx (ix cC z.m x) (vx (l1 dR (U 0 _ rfl)) (va (J f) (wln (sr (va (J f) (bn H fun A R H=>cl (bK (⟨(b.2.1,b.2.2.1,b.2.2.2.1,b.2.2.2.2.1,b.2.2.2.2.2.1,b.2.2.2.2.2.2.1,b.2.2.2.2.2.2.2.1,b.2.2.2.2.2.2.2.2.1,b.2.2.2.2.2.2.2.2.2.1,b.2.2.2.2.2.2.2.2.2.2.1,b.2.2.2.2.2.2.2.2.2.2.2.1,b.2.2.2.2.2.2.2.2.2.2.2.2.1,b.2.2.2.2.2.2.2.2.2.2.2.2.2.1,b.2.2.2.2.2.2.2.2.2.2.2.2.2.2.1,b.2.2.2.2.2.2.2.2.2.2.2.2.2.2.2.1,b.2.2.2.2.2.2.2.2.2.2.2.2.2.2.2.2.1),b.2.2.2.2.2.2.2.2.2.2.2.2.2.2.2.2.2⟩:ad) f k R) ?_))))));rintro v31 s l0 ⟨o,rfl⟩;refine va (B (!A.2)) (wln (cn H (fun S H=>?_) (fun S H=>?_)))
   ·refine W.exit (bko rfl (thx ?_));obtain rfl:=si H;exact ⟨_,rfl,rfl,jn s ⟨o,rfl⟩⟩
   refine W.skip (bkn (nrm (W.region (vv (I (w64 (b.1+1))) (WL.nil ?_)))));obtain rfl:=si H;exact ⟨_,rfl,jn s ⟨o,rfl⟩⟩
  refine W.exit (thx ?_);obtain rfl:=si H;exact ⟨_,rfl,rfl,jn E ⟨k,rfl⟩⟩
 ·exact jn y ⟨O8,rfl⟩
 rintro _ e_ w_ ⟨rfl,i0,k0,_,rfl,m0,rfl,p,rfl⟩;refine bke (nrm (sr (vx (leN 104 0 [J a.1,J a.2.1,J a.2.2.1,J a.2.2.2.1,J a.2.2.2.2.1,J a.2.2.2.2.2.1,J a.2.2.2.2.2.2.1,J a.2.2.2.2.2.2.2.1,J a.2.2.2.2.2.2.2.2.1,J a.2.2.2.2.2.2.2.2.2.1,J a.2.2.2.2.2.2.2.2.2.2.1,J a.2.2.2.2.2.2.2.2.2.2.2.1,J a.2.2.2.2.2.2.2.2.2.2.2.2.1,J a.2.2.2.2.2.2.2.2.2.2.2.2.2.1,J a.2.2.2.2.2.2.2.2.2.2.2.2.2.2.1,J a.2.2.2.2.2.2.2.2.2.2.2.2.2.2.2.1,I a.2.2.2.2.2.2.2.2.2.2.2.2.2.2.2.2] (p.on 0 rfl)) (md (sA 104 [J a.1,J a.2.1,J a.2.2.1,J a.2.2.2.1,J a.2.2.2.2.1,J a.2.2.2.2.2.1,J a.2.2.2.2.2.2.1,J a.2.2.2.2.2.2.2.1,J a.2.2.2.2.2.2.2.2.1,J a.2.2.2.2.2.2.2.2.2.1,J a.2.2.2.2.2.2.2.2.2.2.1,J a.2.2.2.2.2.2.2.2.2.2.2.1,J a.2.2.2.2.2.2.2.2.2.2.2.2.1,J a.2.2.2.2.2.2.2.2.2.2.2.2.2.1,J a.2.2.2.2.2.2.2.2.2.2.2.2.2.2.1,J a.2.2.2.2.2.2.2.2.2.2.2.2.2.2.2.1,I a.2.2.2.2.2.2.2.2.2.2.2.2.2.2.2.2] 1 p ⟨rfl,rfl,rfl,rfl,rfl,rfl,rfl,rfl,rfl,rfl,rfl,rfl,rfl,rfl,rfl,rfl,rfl,trivial⟩) ?_))));rintro t o0 q;refine wln (W.ret ?_);obtain rfl:=si j;have D:=q.sD 2 [];exact js (c:=t) (vs:=[J a.1,J a.2.1,J a.2.2.1,J a.2.2.2.1,J a.2.2.2.2.1,J a.2.2.2.2.2.1,J a.2.2.2.2.2.2.1,J a.2.2.2.2.2.2.2.1,J a.2.2.2.2.2.2.2.2.1,J a.2.2.2.2.2.2.2.2.2.1,J a.2.2.2.2.2.2.2.2.2.2.1,J a.2.2.2.2.2.2.2.2.2.2.2.1,J a.2.2.2.2.2.2.2.2.2.2.2.2.1,J a.2.2.2.2.2.2.2.2.2.2.2.2.2.1,J a.2.2.2.2.2.2.2.2.2.2.2.2.2.2.1,J a.2.2.2.2.2.2.2.2.2.2.2.2.2.2.2.1,I a.2.2.2.2.2.2.2.2.2.2.2.2.2.2.2.2]) rfl (by kernel_rfl) (by kernel_rfl) (by kernel_rfl) (q.on 1 rfl _ rfl).1 ⟨_,t,rfl,rfl,pt,D,rfl⟩
def ao (p0:ad):Option (List Int):=
 if false=true then
 some ([]:List Int)
 else
 (slc (a16 p0.text) 0 p0.n).bind fun a=>
 (cc a).bind fun b=>
 some b
theorem bF {b:Nat} (a:ad) (p:Own c0 G ((Eb b 104 [J a.text.1,J a.text.2.1,J a.text.2.2.1,J a.text.2.2.2.1,J a.text.2.2.2.2.1,J a.text.2.2.2.2.2.1,J a.text.2.2.2.2.2.2.1,J a.text.2.2.2.2.2.2.2.1,J a.text.2.2.2.2.2.2.2.2.1,J a.text.2.2.2.2.2.2.2.2.2.1,J a.text.2.2.2.2.2.2.2.2.2.2.1,J a.text.2.2.2.2.2.2.2.2.2.2.2.1,J a.text.2.2.2.2.2.2.2.2.2.2.2.2.1,J a.text.2.2.2.2.2.2.2.2.2.2.2.2.2.1,J a.text.2.2.2.2.2.2.2.2.2.2.2.2.2.2.1,J a.text.2.2.2.2.2.2.2.2.2.2.2.2.2.2.2,I a.n]) :: F)) {r:List Int} (H:ao a=some r): Calls prog 79 #[Q b] c0.w (aR c0 fun c v=>∃h o,Own c G (es true (RI .i32) h 21 o r :: (Eb b 104 [J a.text.1,J a.text.2.1,J a.text.2.2.1,J a.text.2.2.2.1,J a.text.2.2.2.2.1,J a.text.2.2.2.2.2.1,J a.text.2.2.2.2.2.2.1,J a.text.2.2.2.2.2.2.2.1,J a.text.2.2.2.2.2.2.2.2.1,J a.text.2.2.2.2.2.2.2.2.2.1,J a.text.2.2.2.2.2.2.2.2.2.2.1,J a.text.2.2.2.2.2.2.2.2.2.2.2.1,J a.text.2.2.2.2.2.2.2.2.2.2.2.2.1,J a.text.2.2.2.2.2.2.2.2.2.2.2.2.2.1,J a.text.2.2.2.2.2.2.2.2.2.2.2.2.2.2.1,J a.text.2.2.2.2.2.2.2.2.2.2.2.2.2.2.2,I a.n]) :: F)∧v=h∧OA (RI .i32) c h o r):=by
 unfold ao at H;refine en func79 rfl rfl (sr (va (Y) (wln (W.seq (sr (va (Q b) (va (B false) (wln (W.cond (t:=false) (by kernel_rfl) (fun g=>?_) (fun g=>?_))))))))))
 ·cases g
 have H:=ie g H;refine W.skip (nrm (W.seq (rD [] (Kp G0 [(Eb b 104 [J a.text.1,J a.text.2.1,J a.text.2.2.1,J a.text.2.2.2.1,J a.text.2.2.2.2.1,J a.text.2.2.2.2.2.1,J a.text.2.2.2.2.2.2.1,J a.text.2.2.2.2.2.2.2.1,J a.text.2.2.2.2.2.2.2.2.1,J a.text.2.2.2.2.2.2.2.2.2.1,J a.text.2.2.2.2.2.2.2.2.2.2.1,J a.text.2.2.2.2.2.2.2.2.2.2.2.1,J a.text.2.2.2.2.2.2.2.2.2.2.2.2.1,J a.text.2.2.2.2.2.2.2.2.2.2.2.2.2.1,J a.text.2.2.2.2.2.2.2.2.2.2.2.2.2.2.1,J a.text.2.2.2.2.2.2.2.2.2.2.2.2.2.2.2,I a.n])]) p ?_)));intro s M i;have y:Kp G0 [(Eb b 104 [J a.text.1,J a.text.2.1,J a.text.2.2.1,J a.text.2.2.2.1,J a.text.2.2.2.2.1,J a.text.2.2.2.2.2.1,J a.text.2.2.2.2.2.2.1,J a.text.2.2.2.2.2.2.2.1,J a.text.2.2.2.2.2.2.2.2.1,J a.text.2.2.2.2.2.2.2.2.2.1,J a.text.2.2.2.2.2.2.2.2.2.2.1,J a.text.2.2.2.2.2.2.2.2.2.2.2.1,J a.text.2.2.2.2.2.2.2.2.2.2.2.2.1,J a.text.2.2.2.2.2.2.2.2.2.2.2.2.2.1,J a.text.2.2.2.2.2.2.2.2.2.2.2.2.2.2.1,J a.text.2.2.2.2.2.2.2.2.2.2.2.2.2.2.2,I a.n])] s:=(Kp.cons (i.on 0 rfl) Kp.nil0);refine ta 0 (Q b) (ta 1 (Q b) (ta 2 (Q b) (ta 3 (Q b) (ta 4 (Q b) (ta 5 (Qo b 16) (tkx 6 y (fun q l x=>le1 16 u_3 (x.on 0 rfl)) (bn H fun A d H=>AC.take 7 (.slice (some ⟨b,0,none⟩) a.n.toNat 16) rfl (by kernel_rfl) (by kernel_rfl) (fun q l=>(rx (by kernel_rfl) (gY (k:= .i64) underlying102 (by kernel_rfl) (eG d).2.1 (eG d).2.2.1 _))) (bn H fun D u H=>o1 8 (gc 8 (et i rfl (gS d) (i5 (k:= .i32) d [] [I a.n]) u) ?_)))))))));rintro v8 f E ⟨_,z,e,rfl,j⟩;have m:Kp G0 [(Eb b 104 [J a.text.1,J a.text.2.1,J a.text.2.2.1,J a.text.2.2.2.1,J a.text.2.2.2.2.1,J a.text.2.2.2.2.2.1,J a.text.2.2.2.2.2.2.1,J a.text.2.2.2.2.2.2.2.1,J a.text.2.2.2.2.2.2.2.2.1,J a.text.2.2.2.2.2.2.2.2.2.1,J a.text.2.2.2.2.2.2.2.2.2.2.1,J a.text.2.2.2.2.2.2.2.2.2.2.2.1,J a.text.2.2.2.2.2.2.2.2.2.2.2.2.1,J a.text.2.2.2.2.2.2.2.2.2.2.2.2.2.1,J a.text.2.2.2.2.2.2.2.2.2.2.2.2.2.2.1,J a.text.2.2.2.2.2.2.2.2.2.2.2.2.2.2.2,I a.n])] f:=(Kp.cons (e.on 1 rfl) Kp.nil0);refine ⟨.inr m,ta 9 (v8) (dn (nrm (W.ret ?_)))⟩;obtain rfl:=si H;exact r1 (qq f ⟨v8,z,e,rfl,j⟩)
def ck (p0:Int):Option (Bool):=
 (if (p0==1)=true then
 some (p0==1)
 else
 if (p0==2)=true then
 some (p0==2)
 else
 some (p0==3)).bind fun c=>
 if c=true then
 some true
 else
 (if (p0==4)=true then
 some (p0==4)
 else
 some (p0==5)).bind fun a=>
 if a=true then
 some true
 else
 (if (p0==10)=true then
 some (p0==10)
 else
 some (p0==11)).bind fun b=>
 if b=true then
 some true
 else
 some false
theorem fu (o:Own c0 G F) (a:Int) {r:Bool} (H:ck a=some r): Calls prog 128 #[I a] c0.w (aR c0 fun c v=>Own c G (F)∧v=B r):=by
 unfold ck at H;refine en func128 rfl rfl (sr (va (B false) (wln (W.seq (sr (va (I a) (wln (W.block (W.seq (W.block (W.block (W.block (W.seq (W.seq (bn H fun E b i=>W.seqJ (Jn c0 fun c l=>Own c G (F)∧l= [(3,I a),(4,B E)]) ?_ ?_)))))))))))))))
 ·refine sr (vv (B (a==1)) (wln (cn b (fun M b=>?_) (fun M b=>?_))))
  ·refine W.skip (nrm ?_);obtain rfl:=si b;exact jn c0 ⟨o,rfl⟩
  refine sr (vv (B (a==2)) (wln (cn b (fun N b=>?_) (fun N b=>?_))))
  ·refine W.skip (nrm ?_);obtain rfl:=si b;exact jn c0 ⟨o,rfl⟩
  refine W.region (vv (B (a==3)) (wln ?_));obtain rfl:=si b;exact jn c0 ⟨o,rfl⟩
 rintro t D ⟨k,U,_,rfl,X,rfl,p,rfl⟩;refine cn i (fun u i=>?_) (fun u i=>?_)
 ·refine W.exit (thx (thx (bke (bkn (bkn (nrm (W.seq (sr (va (B true) (wln (W.ret (thr (bkr (thr ?_))))))))))))));obtain rfl:=si i;exact r1 (qq k ⟨p,rfl⟩)
 refine W.skip (nrm (W.seq (bn i fun q d e=>W.seqJ (Jn k fun c l=>Own c G (F)∧l= [(3,I a),(8,B q)]) ?_ ?_)))
 ·refine sr (vv (B (a==4)) (wln (cn d (fun x d=>?_) (fun x d=>?_))))
  ·refine W.skip (nrm ?_);obtain rfl:=si d;exact jn k ⟨p,rfl⟩
  refine W.region (vv (B (a==5)) (wln ?_));obtain rfl:=si d;exact jn k ⟨p,rfl⟩
 rintro t D ⟨h,P,_,rfl,S,rfl,j,rfl⟩;refine cn e (fun y e=>?_) (fun y e=>?_)
 ·refine W.exit (thx (thx (bko rfl (bke (bkn (nrm (W.seq (sr (va (B true) (wln (W.ret (thr (bkr (thr ?_))))))))))))));obtain rfl:=si e;exact r1 (qq h ⟨j,rfl⟩)
 refine W.skip (nrm (bn e fun s f g=>W.seqJ (Jn h fun c l=>Own c G (F)∧l= [(11,B s)]) ?_ ?_))
 ·refine sr (vv (B (a==10)) (wln (cn f (fun z f=>?_) (fun z f=>?_))))
  ·refine W.skip (nrm ?_);obtain rfl:=si f;exact jn h ⟨j,rfl⟩
  refine W.region (vv (B (a==11)) (wln ?_));obtain rfl:=si f;exact jn h ⟨j,rfl⟩
 rintro t D ⟨n,R,_,rfl,T,rfl,m,rfl⟩;refine cn g (fun A g=>?_) (fun A g=>?_)
 ·refine W.exit (thx (bko rfl (bko rfl (bke (nrm (W.seq (sr (va (B true) (wln (W.ret (thr (bkr (thr ?_)))))))))))));obtain rfl:=si g;exact r1 (qq n ⟨m,rfl⟩)
 refine W.skip (nrm (W.exit (bko rfl (bko rfl (bko rfl (thx (bke (nrm (sr (va (B false) (wln (W.ret ?_))))))))))));obtain rfl:=si g;exact r1 (qq n ⟨m,rfl⟩)
def cS (p0:ae):Option (Int):=
 (ck p0.Break).bind fun b=>
 if b=true then
 some 0
 else
 (orE (p0.East==1) (some (p0.East==2))).bind fun a=>
 if a=true then
 some 2
 else
 some 1
theorem gd (q:Own c0 G F) (a:ae) {r:Int} (H:cS a=some r): Calls prog 121 #[.agg #[I a.Break,B a.Pict,I a.Conj,I a.East]] c0.w (aR c0 fun c v=>Own c G (F)∧v=I r):=by
 unfold cS at H;refine en func121 rfl rfl (sr (me (bx 33 [I a.Break,B a.Pict,I a.Conj,I a.East] q) ?_));rintro v5 z D ⟨i,rfl,s,k⟩;refine va (I 0) (wln (W.seq (W.block (sr (va (Q i) (vx (l1 u_3 (k 0 _ rfl)) (bn H fun p t H=>cl (fu s a.Break t) ?_)))))));rintro v12 d x ⟨h,rfl⟩;refine va (B p) (wln (cn H (fun n H=>?_) (fun n H=>?_)))
 ·refine sr (va (I 0) (wln (W.ret (bkr (thr ?_)))));obtain rfl:=si H;exact r1 (qq d ⟨h,rfl⟩)
 refine W.seq (bn H fun j g H=>W.join (Jn d fun c l=>Own c G (F)∧l= [(7,B j)]) ?_ ?_)
 ·clear H;refine W.region (va (Qo i (0+3)) (vx (l1 u_3 ((mm k) 3 _ rfl)) (va (B (a.East==1)) ?_)));rcases bo (a.East==1) with b | b
  ·obtain rfl:=orT b g;exact vb b (pz (ps (vv (B true) (wln (jn d ⟨h,rfl⟩)))))
  have m:=orF b g;refine vb b (wa (Qo i (0+3)) (wn (vx (l1 u_3 ((mm k) 3 _ rfl)) (wa (B (a.East==2)) ?_))));obtain rfl:=si m;exact vv (B (a.East==2)) (wln (jn d ⟨h,rfl⟩))
 rintro A E ⟨f,u,_,rfl,y,rfl,e,rfl⟩;refine nrm (cn H (fun o H=>?_) (fun o H=>?_))
 ·refine sr (va (I 2) (wln (W.ret (bkr (thr ?_)))));obtain rfl:=si H;exact r1 (qq f ⟨e,rfl⟩)
 refine W.skip (bkn (nrm (sr (va (I 1) (wln (W.ret ?_))))));obtain rfl:=si H;exact r1 (qq f ⟨e,rfl⟩)
def ax (p0:aF) (p1:Int) (p2:ae):Option (Bool):=
 (cS p2).bind fun d=>
 if (d==2)=true then
 some true
 else
 if (!p0.some)=true then
 some false
 else
 (cy (p1==65039) (some p0.pict)).bind fun a=>
 (orE a (some p2.Pict)).bind fun b=>
 (orE b (some (p2.Break==6))).bind fun c=>
 some c
theorem bU {b:Nat} (d:aF) (o:Int) (a:ae) (S:Own c0 G ((Eb b 123 [B d.some,B d.pict,B d.wide]) :: F)) {r:Bool} (H:ax d o a=some r): Calls prog 105 #[Q b,J o,.agg #[I a.Break,B a.Pict,I a.Conj,I a.East]] c0.w (aR c0 fun c v=>Own c G ((Eb b 123 [B d.some,B d.pict,B d.wide]) :: F)∧v=B r):=by
 unfold ax at H;refine en func105 rfl rfl (sr (me (bx 33 [I a.Break,B a.Pict,I a.Conj,I a.East] S) ?_));rintro v5 c4 l4 ⟨p,rfl,T,n⟩;refine va (B false) (wln (W.seq (W.block (sr (vx (lN 33 n) (bn H fun u Z H=>cl (gd T a Z) ?_))))));rintro v12 e b0 ⟨f,rfl⟩;refine vv (B (u==2)) (wln (cn H (fun P H=>?_) (fun P H=>?_)))
 ·refine sr (va (B true) (wln (W.ret (bkr (thr ?_)))));obtain rfl:=si H;exact r1 (qq e ⟨f,rfl⟩)
 refine sr (vv (Q b) (va (Q b) (vx (le1 0 u_4 (f.on 0 rfl)) (vv (B (!d.some)) (wln (cn H (fun R H=>?_) (fun R H=>?_)))))))
 ·refine sr (va (B false) (wln (W.ret (bkr (thr ?_)))));obtain rfl:=si H;exact r1 (qq e ⟨f,rfl⟩)
 refine W.skip (bkn (nrm (W.seq (bn H fun U q H=>bn H fun X m H=>bn H fun x g H=>W.join (Jn e fun c l=>Own c G ((Eb b 123 [B d.some,B d.pict,B d.wide]) :: F)∧l= [(6,B x)]) ?_ ?_))))
 ·clear H;refine W.region (va (J o) (va (B (o==65039)) ?_));rcases bo (o==65039) with h | h
  ·have y:=anT h q;refine vb h (wa (Q b) (wa (Q b) (wa (Qo b 1) (wn (vx (le1 1 u_4 (f.on 0 rfl)) ?_)))));obtain rfl:=si y;refine va (B d.pict) ?_;rcases bo (d.pict) with i | i
   ·obtain rfl:=orT i m;refine vb i (pz (va (B true) ?_));have s:true=true:=rfl;obtain rfl:=orT s g;exact vb s (pz (ps (vv (B true) (wln (jn e ⟨f,rfl⟩)))))
   have z:=orF i m;refine vb i (wa (Qo p (0+1)) (wn (vx (l1 u_4 ((mm n) 1 _ rfl)) ?_)));obtain rfl:=si z;refine va (B a.Pict) ?_;rcases bo (a.Pict) with j | j
   ·obtain rfl:=orT j g;exact vb j (pz (ps (vv (B true) (wln (jn e ⟨f,rfl⟩)))))
   have A:=orF j g;refine vb j (wa (Q p) (wn (vx (l1 u_3 ((mm n) 0 _ rfl)) (wa (B (a.Break==6)) ?_))));obtain rfl:=si A;exact vv (B (a.Break==6)) (wln (jn e ⟨f,rfl⟩))
  obtain rfl:=anF h q;refine vb h (pz (pz (va (B false) ?_)));have t:false=false:=rfl;have D:=orF t m;refine vb t (wa (Qo p (0+1)) (wn (vx (l1 u_4 ((mm n) 1 _ rfl)) ?_)));obtain rfl:=si D;refine va (B a.Pict) ?_;rcases bo (a.Pict) with k | k
  ·obtain rfl:=orT k g;exact vb k (pz (ps (vv (B true) (wln (jn e ⟨f,rfl⟩)))))
  have E:=orF k g;refine vb k (wa (Q p) (wn (vx (l1 u_3 ((mm n) 0 _ rfl)) (wa (B (a.Break==6)) ?_))));obtain rfl:=si E;exact vv (B (a.Break==6)) (wln (jn e ⟨f,rfl⟩))
 rintro e_ w_ ⟨N,a0,_,rfl,d0,rfl,M,rfl⟩;refine nrm (W.ret ?_);obtain rfl:=si H;exact r1 (qq N ⟨M,rfl⟩)
def ay (p0:aF) (p1:Int) (p2:ae):Option (aF×Int):=
 if false=true then
 some (p0,1)
 else
 (orE p0.wide ((ax p0 p1 p2).bind fun b=>
 some b)).bind fun a=>
 if a=true then
 some ((⟨true,p2.Pict,a⟩:aF),2)
 else
 some ((⟨true,p2.Pict,a⟩:aF),1)
theorem bX {a:Nat} (b:aF) (k:Int) (d:ae) (T:Own c0 G ((Eb a 123 [B b.some,B b.pict,B b.wide]) :: F)) {r:aF×Int} (H:ay b k d=some r): Calls prog 99 #[Q a,J k,.agg #[I d.Break,B d.Pict,I d.Conj,I d.East]] c0.w (aR c0 fun c v=>Own c G ((Eb a 123 [B r.1.some,B r.1.pict,B r.1.wide]) :: F)∧v=I r.2):=by
 unfold ay at H;refine en func99 rfl rfl (sr (me (bx 33 [I d.Break,B d.Pict,I d.Conj,I d.East] T) ?_));rintro v5 X l4 ⟨x,rfl,m,P⟩;refine va (I 0) (wln (W.seq (sr (va (Q a) (va (B false) (wln (W.cond (t:=false) (by kernel_rfl) (fun n=>?_) (fun n=>?_))))))))
 ·cases n
 have H:=ie n H;refine W.skip (nrm (W.seq (bn H fun e N H=>W.join (Jn X fun c l=>Own c G ((Eb a 123 [B b.some,B b.pict,B e]) :: F)∧l= [(0,Q a),(5,Q x)]) ?_ ?_)))
 ·clear H;refine W.region (vv (Q a) (va (Q a) (va (Qo a 2) (vx (le1 2 u_4 (m.on 0 rfl)) ?_))));rcases bo (b.wide) with j | j
  ·obtain rfl:=orT j N;refine vb j (pz (pz (va (B true) (va (Q a) (va (Qo a 2) (md (sC 4 2 (B true) [B b.some,B b.pict,B true] 0 m ⟨rfl,trivial⟩) ?_))))));rintro y e0 U;exact wln (jn y ⟨U,rfl⟩)
  have g:=orF j N;refine vb j (wa (Q a) (wa (J k) (wn (vx (lN 33 P) (wn (bn g fun f E g=>cl (bU b k d m E) ?_))))));rintro v19 Z f0 ⟨o,rfl⟩;obtain rfl:=si g;refine va (B f) (va (Q a) (va (Qo a 2) (md (sC 4 2 (B f) [B b.some,B b.pict,B f] 0 o ⟨rfl,trivial⟩) ?_)));rintro z g0 p;exact wln (jn z ⟨p,rfl⟩)
 rintro e_ w_ ⟨a0,b0,_,rfl,h0,rfl,q,rfl⟩;refine nrm (W.seq (rD [] (Kp G0 []) q ?_));intro A i0 s;have l0:Kp G0 [] A:=Kp.nil0;refine ta 0 (Q a) (ta 1 (Q a) (ta 2 (Qo x (0+1)) (tx 3 (fun c' d0=>l1 u_4 ((mm P) 1 _ rfl)) (ta 4 (Q a) (ta 5 (Q a) (o1 6 (gD 6 (sC 4 0 (B true) [B true,B b.pict,B e] 0 s ⟨rfl,trivial⟩) ?_)))))));rintro D j0 u;have R:Kp G0 [] D:=Kp.nil0;refine ⟨.inr R,ta 7 (Q a) (ta 8 (Qo a 1) (o1 9 (gD 9 (sC 4 1 (B d.Pict) [B true,B d.Pict,B e] 0 u ⟨rfl,trivial⟩) ?_)))⟩;rintro i k0 h;have S:Kp G0 [] i:=Kp.nil0;refine ⟨.inr S,dn (nrm (W.seq (sr (vv (Q a) (va (Qo a 2) (vx (le1 2 u_4 (h.on 0 rfl)) (wln (cn H (fun M H=>?_) (fun M H=>?_)))))))))⟩
 ·refine sr (va (I 2) (wln (W.ret (thr ?_))));obtain rfl:=si H;exact r1 (qq i ⟨h,rfl⟩)
 refine W.skip (nrm (sr (va (I 1) (wln (W.ret ?_)))));obtain rfl:=si H;exact r1 (qq i ⟨h,rfl⟩)
def cI (p0:List Int):Option (Int):=
 (cQ (σ:=Int×Int×Bool×Bool×Bool) (τ:=(Int×Bool×Bool×Bool)) (((p0.length:Int) - 0).toNat+1) (fun a=>
 if (decide (a.2.1 < (p0.length:Int)))=true then
 (idx p0 a.2.1).bind fun c=>
 (dk c).bind fun e=>
 (ay (⟨a.2.2.1,a.2.2.2.1,a.2.2.2.2⟩:aF) c e).bind fun b=>
 some (.inl (b.2,(w64 (a.2.1+1)),b.1.some,b.1.pict,b.1.wide))
 else
 some (.inr (a.1,a.2.2.1,a.2.2.2.1,a.2.2.2.2))) (1,0,false,false,false)).bind fun d=>
 some d.1
theorem fT (T:Own c0 G F) (g:List Int) {r:Int} (n:Sl (RI .i32) c0 v1 g) (H:cI g=some r): Calls prog 80 #[v1] c0.w (aR c0 fun c v=>Own c G (F)∧v=I r):=by
 unfold cI at H;refine en func80 rfl rfl (sr (va (I 0) (wln (sr (me (al 123 [B false,B false,B false] T) ?_)))));rintro v6 k l5 ⟨j,rfl,U⟩;refine wln (sr (va (I 1) (wln (W.seq (sr (va (v1) (vx (ln 3 cC n.m) (va (I 0) (wln (W.block (bn H fun f P q=>lp P (fun a=>Jn k fun c l=>Own c G ((Eb j 123 [B a.2.2.1,B a.2.2.2.1,B a.2.2.2.2]) :: F)∧l= [(3,Q j),(4,I a.1),(7,v1),(8,I (g.length:Int)),(9,I a.2.1)]) (fun b ex e w=>ex= .exit 0∧(Jn k fun c l=>Own c G ((Eb j 123 [B b.2.1,B b.2.2.1,B b.2.2.2]) :: F)∧l= [(4,I b.1)]) e w) ?_ ?_ ?_)))))))))))
 ·clear q P;intro a l0 A S H;revert A S;rintro Z w_ ⟨X,g0,_,rfl,l9,rfl,h,rfl⟩;refine sr (va (B (decide (a.2.1 < (g.length:Int)))) (wln (W.seq (cn H (fun D H=>?_) (fun D H=>?_)))))
  ·refine W.skip (nrm (W.seq (W.block (sr (bn H fun d i H=>?_)))));obtain ⟨d0,E,R⟩:=Sl.at (n.mono (l5.trans l9)) (bl i);obtain rfl:=E;refine vx (ix cC n.m i) (vx (l1 dR (R 0 _ rfl)) (va (J d) (wln (W.region (vv (J d) (bn H fun o M H=>cl (fP h d M) ?_))))));rintro v26 f0 i0 ⟨s,rfl⟩;refine bn H fun p N H=>cl (bX (⟨a.2.2.1,a.2.2.2.1,a.2.2.2.2⟩:aF) d o s N) ?_;rintro v34 y j0 ⟨t,rfl⟩;refine va (I p.2) (WL.nil (bkn (nrm (W.region (vv (I (w64 (a.2.1+1))) (WL.nil ?_))))));obtain rfl:=si H;exact ⟨_,rfl,jn y ⟨t,rfl⟩⟩
  refine W.exit (thx ?_);obtain rfl:=si H;exact ⟨_,rfl,rfl,jn X ⟨h,rfl⟩⟩
 ·exact jn k ⟨U,rfl⟩
 rintro _ Z w_ ⟨rfl,z,h0,_,rfl,k0,rfl,u,rfl⟩;refine bke (nrm (sr (vv (I f.1) (wln (W.ret ?_)))));obtain rfl:=si q;have x:=u.sD 1 [];exact r1 (qq z ⟨x,rfl⟩)
def aU (p0:List Int):Option (aX×Bool):=
 (idx p0 0).bind fun d=>
 (aQ d).bind fun e=>
 if e=true then
 some ((⟨0,([]:List Int)⟩:aX),false)
 else
 (cj p0).bind fun b=>
 (ao b).bind fun a=>
 (cI a).bind fun c=>
 some ((⟨c,a⟩:aX),true)
theorem eu (O0:Own c0 G F) (s:List Int) {r:aX×Bool} (q:Sl (RI .i32) c0 v1 s) (H:aU s=some r): Calls prog 39 #[v1] c0.w (aR c0 fun c v=>∃y1,Own c G (F)∧v= .tuple #[.agg #[I r.1.Wide,y1],B r.2]∧Sl (RI .i32) c y1 r.1.Text):=by
 unfold aU at H;refine en func39 rfl rfl (sr (me (al 39 [I 0,Y] O0) ?_));rintro v6 c5 l5 ⟨b3,rfl,O4⟩;refine va (B false) (wln (W.seq (sr (va (v1) (bn H fun e0 h7 H=>?_)))));obtain ⟨a1,h9,d0⟩:=Sl.at (q.mono l5) (bl h7);obtain rfl:=h9;refine vx (ix cC q.m h7) (vx (l1 dR (d0 0 _ rfl)) (bn H fun c1 N H=>cl (dL O4 e0 N) ?_));rintro v17 l0 l16 ⟨i,rfl⟩;refine wln (cn H (fun P H=>?_) (fun P H=>?_))
 ·refine sr (va (.agg #[I 0,Y]) (md (sA 39 [I 0,Y] 0 i ⟨rfl,rfl,trivial⟩) ?_));rintro k v0 j;refine va (B false) (wln (W.ret (thr ?_)));obtain rfl:=si H;have u:=j.sD 1 [];exact iT (c:=k) (vs:=[I 0,Y]) (v:=B false) rfl (by kernel_rfl) (by kernel_rfl) (by kernel_rfl) (by kernel_rfl) (j.on 0 rfl _ rfl).1 ⟨_,k,rfl,rfl,pt,(Y),u,rfl,(Sl.nl _ _)⟩
 refine W.skip (nrm (sr (va (v1) (bn H fun a R H=>cl (fq i s q.m R) ?_))));rintro v28 m0 w0 ⟨x,rfl⟩;refine me (al 104 [J 0,J 0,J 0,J 0,J 0,J 0,J 0,J 0,J 0,J 0,J 0,J 0,J 0,J 0,J 0,J 0,I 0] x) ?_;rintro v32 o0 x0 ⟨k0,rfl,y⟩;refine md (sA 104 [J a.text.1,J a.text.2.1,J a.text.2.2.1,J a.text.2.2.2.1,J a.text.2.2.2.2.1,J a.text.2.2.2.2.2.1,J a.text.2.2.2.2.2.2.1,J a.text.2.2.2.2.2.2.2.1,J a.text.2.2.2.2.2.2.2.2.1,J a.text.2.2.2.2.2.2.2.2.2.1,J a.text.2.2.2.2.2.2.2.2.2.2.1,J a.text.2.2.2.2.2.2.2.2.2.2.2.1,J a.text.2.2.2.2.2.2.2.2.2.2.2.2.1,J a.text.2.2.2.2.2.2.2.2.2.2.2.2.2.1,J a.text.2.2.2.2.2.2.2.2.2.2.2.2.2.2.1,J a.text.2.2.2.2.2.2.2.2.2.2.2.2.2.2.2,I a.n] 0 y ⟨rfl,rfl,rfl,rfl,rfl,rfl,rfl,rfl,rfl,rfl,rfl,rfl,rfl,rfl,rfl,rfl,rfl,trivial⟩) ?_;rintro q0 y0 z;refine wln (sr (bn H fun t S H=>cl (bF a z S) ?_));rintro v37 s0 z0 ⟨_,b1,A,rfl,g⟩;refine va (v37) (wln (sr (va (v37) ?_)));obtain ⟨t0,U,o,D,T⟩:=A.frz 0 rfl g;refine WL.gh U (bn H fun b X H=>cl (fT D t T X) ?_);rintro v56 u0 p ⟨E,rfl⟩;refine va (v37) ?_;obtain ⟨d,e,f,rfl⟩:=((g.mono (o.trans p))).form;refine va (.agg #[I b,.slice d e f]) (md (sA 39 [I b,.slice d e f] 2 E ⟨rfl,g.m.one,trivial⟩) ?_);rintro l b0 h;refine va (B true) (wln (W.ret ?_));obtain rfl:=si H;have Z:=h.slf 0 rfl (g.mono (o.trans (p.trans b0)));have M:=h.sD 3 [];exact iT (c:=l) (vs:=[I b,.slice d e f]) (v:=B true) rfl (by kernel_rfl) (by kernel_rfl) (by kernel_rfl) (by kernel_rfl) (h.on 2 rfl _ rfl).1 ⟨_,l,rfl,rfl,pt,(.slice d e f),M,rfl,Z⟩
def bI (p0:Int):Option (Int):=
 (orE (decide (p0 < 0)) (some (decide (p0 > 13)))).bind fun a=>
 if a=true then
 some 0
 else
 some p0
theorem dV (d:Own c0 G F) (a:Int) {r:Int} (H:bI a=some r): Calls prog 117 #[I a] c0.w (aR c0 fun c v=>Own c G (F)∧v=I r):=by
 unfold bI at H;refine en func117 rfl rfl (sr (va (I 0) (wln (W.seq (W.seq (bn H fun g h H=>W.join (Jn c0 fun c l=>Own c G (F)∧l= [(0,I a),(8,B g)]) ?_ ?_))))))
 ·clear H;refine W.region (va (I a) (va (B (decide (a < 0))) ?_));rcases bo (decide (a < 0)) with b | b
  ·obtain rfl:=orT b h;exact vb b (pz (va (B true) (wln (jn c0 ⟨d,rfl⟩))))
  have j:=orF b h;refine vb b (wa (I a) (wa (B (decide (a > 13))) ?_));obtain rfl:=si j;exact va (B (decide (a > 13))) (wln (jn c0 ⟨d,rfl⟩))
 rintro k o ⟨f,m,_,rfl,n,rfl,e,rfl⟩;refine nrm (cn H (fun i H=>?_) (fun i H=>?_))
 ·refine sr (va (I 0) (wln (W.ret (thr ?_))));obtain rfl:=si H;exact r1 (qq f ⟨e,rfl⟩)
 refine W.skip (nrm (sr (vv (I a) (wln (W.ret ?_)))));obtain rfl:=si H;exact r1 (qq f ⟨e,rfl⟩)
def cf (p0:Int):Option (Bool):=
 if (p0==1)=true then
 some true
 else
 if (p0==2)=true then
 some true
 else
 if (p0==3)=true then
 some true
 else
 some false
theorem dJ (b:Own c0 G F) (a:Int) {r:Bool} (H:cf a=some r): Calls prog 118 #[I a] c0.w (aR c0 fun c v=>Own c G (F)∧v=B r):=by
 unfold cf at H;refine en func118 rfl rfl (sr (va (B false) (wln (W.seq (sr (va (I a) (wln (W.block (W.seq (W.block (W.block (W.block (W.seq (W.seq (sr (vv (B (a==1)) (wln (cn H (fun d H=>?_) (fun d H=>?_)))))))))))))))))))
 ·refine W.exit (thx (thx (bke (bkn (bkn (nrm (W.seq (sr (va (B true) (wln (W.ret (thr (bkr (thr ?_))))))))))))));obtain rfl:=si H;exact r1 (qq c0 ⟨b,rfl⟩)
 refine W.skip (nrm (W.seq (sr (vv (B (a==2)) (wln (cn H (fun e H=>?_) (fun e H=>?_)))))))
 ·refine W.exit (thx (thx (bko rfl (bke (bkn (nrm (W.seq (sr (va (B true) (wln (W.ret (thr (bkr (thr ?_))))))))))))));obtain rfl:=si H;exact r1 (qq c0 ⟨b,rfl⟩)
 refine W.skip (nrm (sr (vv (B (a==3)) (wln (cn H (fun f H=>?_) (fun f H=>?_))))))
 ·refine W.exit (thx (bko rfl (bko rfl (bke (nrm (W.seq (sr (va (B true) (wln (W.ret (thr (bkr (thr ?_)))))))))))));obtain rfl:=si H;exact r1 (qq c0 ⟨b,rfl⟩)
 refine W.skip (nrm (W.exit (bko rfl (bko rfl (bko rfl (thx (bke (nrm (sr (va (B false) (wln (W.ret ?_))))))))))));obtain rfl:=si H;exact r1 (qq c0 ⟨b,rfl⟩)
def cw (p0:Int) (p1:Int):Option (Bool):=
 if (p0==9)=true then
 (orE (p1==9) (some (p1==10))).bind fun a=>
 (orE a (some (p1==12))).bind fun b=>
 (orE b (some (p1==13))).bind fun c=>
 some c
 else
 (if (p0==12)=true then
 some (p0==12)
 else
 some (p0==10)).bind fun e=>
 if e=true then
 (orE (p1==10) (some (p1==11))).bind fun d=>
 some d
 else
 (if (p0==13)=true then
 some (p0==13)
 else
 some (p0==11)).bind fun f=>
 if f=true then
 some (p1==11)
 else
 some false
theorem el (m:Own c0 G F) (b:Int) (a:Int) {r:Bool} (H:cw b a=some r): Calls prog 119 #[I b,I a] c0.w (aR c0 fun c v=>Own c G (F)∧v=B r):=by
 unfold cw at H;refine en func119 rfl rfl (sr (va (B false) (wln (W.seq (sr (va (I b) (wln (W.block (sr (vv (B (b==9)) (wln (cn H (fun h1 H=>?_) (fun h1 H=>?_)))))))))))))
 ·refine W.seq (bn H fun i0 Z H=>bn H fun j0 A H=>bn H fun x p H=>W.join (Jn c0 fun c l=>Own c G (F)∧l= [(4,B x)]) ?_ ?_)
  ·clear H;refine W.region (va (I a) (va (B (a==9)) ?_));rcases bo (a==9) with n | n
   ·obtain rfl:=orT n Z;refine vb n (pz (va (B true) ?_));have h6:true=true:=rfl;obtain rfl:=orT h6 A;refine vb h6 (pz (va (B true) ?_));have h7:true=true:=rfl;obtain rfl:=orT h7 p;exact vb h7 (pz (vv (B true) (wln (jn c0 ⟨m,rfl⟩))))
   have H8:=orF n Z;refine vb n (wa (I a) (wa (B (a==10)) ?_));obtain rfl:=si H8;refine va (B (a==10)) ?_;rcases bo (a==10) with o | o
   ·obtain rfl:=orT o A;refine vb o (pz (va (B true) ?_));have t:true=true:=rfl;obtain rfl:=orT t p;exact vb t (pz (vv (B true) (wln (jn c0 ⟨m,rfl⟩))))
   have N:=orF o A;refine vb o (wa (I a) (wa (B (a==12)) ?_));obtain rfl:=si N;refine va (B (a==12)) ?_;rcases bo (a==12) with i | i
   ·obtain rfl:=orT i p;exact vb i (pz (vv (B true) (wln (jn c0 ⟨m,rfl⟩))))
   have P:=orF i p;refine vb i (wa (I a) (wa (B (a==13)) ?_));obtain rfl:=si P;exact vv (B (a==13)) (wln (jn c0 ⟨m,rfl⟩))
  rintro z D ⟨U,l0,_,rfl,s0,rfl,S,rfl⟩;refine nrm (W.ret (bkr (thr ?_)));obtain rfl:=si H;exact r1 (qq U ⟨S,rfl⟩)
 refine bn H fun E f d=>W.seqJ (Jn c0 fun c l=>Own c G (F)∧l= [(1,I a),(5,I b),(22,B E)]) ?_ ?_
 ·refine sr (vv (B (b==12)) (wln (cn f (fun a0 f=>?_) (fun a0 f=>?_))))
  ·refine W.skip (nrm ?_);obtain rfl:=si f;exact jn c0 ⟨m,rfl⟩
  refine W.region (vv (B (b==10)) (wln ?_));obtain rfl:=si f;exact jn c0 ⟨m,rfl⟩
 rintro z D ⟨e,m0,_,rfl,t0,rfl,k,rfl⟩;refine cn d (fun b0 d=>?_) (fun b0 d=>?_)
 ·refine W.seq (bn d fun y u d=>W.join (Jn e fun c l=>Own c G (F)∧l= [(4,B y)]) ?_ ?_)
  ·clear d;refine W.region (va (I a) (va (B (a==10)) ?_));rcases bo (a==10) with j | j
   ·obtain rfl:=orT j u;exact vb j (pz (vv (B true) (wln (jn e ⟨k,rfl⟩))))
   have R:=orF j u;refine vb j (wa (I a) (wa (B (a==11)) ?_));obtain rfl:=si R;exact vv (B (a==11)) (wln (jn e ⟨k,rfl⟩))
  rintro z D ⟨X,o0,_,rfl,u0,rfl,T,rfl⟩;refine nrm (W.ret (bkr (thr ?_)));obtain rfl:=si d;exact r1 (qq X ⟨T,rfl⟩)
 refine bn d fun M g h=>W.seqJ (Jn e fun c l=>Own c G (F)∧l= [(1,I a),(31,B M)]) ?_ ?_
 ·refine sr (vv (B (b==13)) (wln (cn g (fun d0 g=>?_) (fun d0 g=>?_))))
  ·refine W.skip (nrm ?_);obtain rfl:=si g;exact jn e ⟨k,rfl⟩
  refine W.region (vv (B (b==11)) (wln ?_));obtain rfl:=si g;exact jn e ⟨k,rfl⟩
 rintro z D ⟨s,q0,_,rfl,v0,rfl,q,rfl⟩;refine cn h (fun e0 h=>?_) (fun e0 h=>?_)
 ·refine sr (va (I a) (vv (B (a==11)) (wln (W.ret (bkr (thr ?_))))));obtain rfl:=si h;exact r1 (qq s ⟨q,rfl⟩)
 refine W.skip (bkn (nrm (sr (va (B false) (wln (W.ret ?_))))));obtain rfl:=si h;exact r1 (qq s ⟨q,rfl⟩)
def aJ (p0:Int) (p1:Int):Option (Int):=
 (bI p0).bind fun b=>
 (bI p1).bind fun a=>
 (cy (b==1) (some (a==2))).bind fun e=>
 if e=true then
 some 1
 else
 (cf b).bind fun i=>
 (orE i ((cf a).bind fun j=>
 some j)).bind fun f=>
 if f=true then
 some 0
 else
 ((cw b a).bind fun d=>
 if d=true then
 some (d)
 else
 if (a==4)=true then
 some (a==4)
 else
 if (a==5)=true then
 some (a==5)
 else
 if (a==8)=true then
 some (a==8)
 else
 some (b==7)).bind fun k=>
 if k=true then
 some 1
 else
 ((cy (a==0) ((orE (b==5) (some (b==4))).bind fun g=>
 some g)).bind fun c=>
 if c=true then
 some (c)
 else
 (cy (b==6) (some (a==6))).bind fun h=>
 some (h)).bind fun l=>
 if l=true then
 some 2
 else
 some 0
theorem fm (O0:Own c0 G F) (E:Int) (M:Int) {r:Int} (H:aJ E M=some r): Calls prog 103 #[I E,I M] c0.w (aR c0 fun c v=>Own c G (F)∧v=I r):=by
 unfold aJ at H;refine en func103 rfl rfl (sr (va (I 0) (wln (sr (va (I E) (bn H fun b h1 H=>cl (dV O0 E h1) ?_))))));rintro v7 c6 l6 ⟨O3,rfl⟩;refine va (I M) (bn H fun a h8 H=>cl (dV O3 M h8) ?_);rintro v14 y b2 ⟨N,rfl⟩;refine va (I b) (va (I a) (wln (W.seq (W.block (W.seq (bn H fun g0 a0 H=>W.join (Jn y fun c l=>Own c G (F)∧l= [(0,I b),(1,I a),(9,B g0)]) ?_ ?_))))))
 ·clear H;refine W.region (va (I b) (va (B (b==1)) ?_));rcases bo (b==1) with k | k
  ·have q0:=anT k a0;refine vb k (wa (I a) (wa (B (a==2)) ?_));obtain rfl:=si q0;exact vv (B (a==2)) (wln (jn y ⟨N,rfl⟩))
  obtain rfl:=anF k a0;exact vb k (pz (vv (B false) (wln (jn y ⟨N,rfl⟩))))
 rintro z A ⟨U,v1,_,rfl,c2,rfl,P,rfl⟩;refine nrm (cn H (fun z0 H=>?_) (fun z0 H=>?_))
 ·refine sr (va (I 1) (wln (W.ret (bkr (thr ?_)))));obtain rfl:=si H;exact r1 (qq U ⟨P,rfl⟩)
 refine W.seq (bn H fun k0 a1 H=>bn H fun h0 b0 H=>W.join (Jn U fun c l=>Own c G (F)∧l= [(0,I b),(1,I a),(16,B h0)]) ?_ ?_)
 ·clear H;refine W.region (va (I b) (cl (dJ P b a1) ?_));rintro v32 w0 d2 ⟨R,rfl⟩;rcases bo (k0) with m | m
  ·obtain rfl:=orT m b0;exact vb m (pz (vv (B true) (wln (jn w0 ⟨R,rfl⟩))))
  have u:=orF m b0;refine vb m (wa (I a) (wn (bn u fun D b1 u=>cl (dJ R a b1) ?_)));rintro v41 x0 e2 ⟨u0,rfl⟩;obtain rfl:=si u;exact vv (B D) (wln (jn x0 ⟨u0,rfl⟩))
 rintro z A ⟨X,w1,_,rfl,f2,rfl,S,rfl⟩;refine nrm (cn H (fun c1 H=>?_) (fun c1 H=>?_))
 ·refine sr (va (I 0) (wln (W.ret (bkr (thr ?_)))));obtain rfl:=si H;exact r1 (qq X ⟨S,rfl⟩)
 refine bn H fun m0 d g=>W.seqJ (Jn X fun c l=>Own c G (F)∧l= [(0,I b),(1,I a),(23,B m0)]) ?_ ?_
 ·refine sr (va (I b) (va (I a) (bn d fun l0 d1 d=>cl (el S b a d1) ?_)));rintro v57 j g2 ⟨i,rfl⟩;refine va (B l0) (wln (cn d (fun e1 d=>?_) (fun e1 d=>?_)))
  ·refine W.skip (nrm ?_);obtain rfl:=si d;exact jn j ⟨i,rfl⟩
  refine sr (va (I a) (vv (B (a==4)) (wln (cn d (fun f1 d=>?_) (fun f1 d=>?_)))))
  ·refine W.skip (nrm ?_);obtain rfl:=si d;exact jn j ⟨i,rfl⟩
  refine sr (va (I a) (vv (B (a==5)) (wln (cn d (fun g1 d=>?_) (fun g1 d=>?_)))))
  ·refine W.skip (nrm ?_);obtain rfl:=si d;exact jn j ⟨i,rfl⟩
  refine sr (va (I a) (vv (B (a==8)) (wln (cn d (fun i1 d=>?_) (fun i1 d=>?_)))))
  ·refine W.skip (nrm ?_);obtain rfl:=si d;exact jn j ⟨i,rfl⟩
  refine W.region (va (I b) (vv (B (b==7)) (wln ?_)));obtain rfl:=si d;exact jn j ⟨i,rfl⟩
 rintro z A ⟨f,x1,_,rfl,h2,rfl,s,rfl⟩;refine cn g (fun j1 g=>?_) (fun j1 g=>?_)
 ·refine sr (va (I 1) (wln (W.ret (bkr (thr ?_)))));obtain rfl:=si g;exact r1 (qq f ⟨s,rfl⟩)
 refine bn g fun o0 e h=>W.seqJ (Jn f fun c l=>Own c G (F)∧l= [(35,B o0)]) ?_ ?_
 ·refine W.seq (bn e fun i0 d0 e=>W.join (Jn f fun c l=>Own c G (F)∧l= [(0,I b),(1,I a),(35,B i0)]) ?_ ?_)
  ·clear e;refine W.region (va (I a) (va (B (a==0)) ?_));rcases bo (a==0) with n | n
   ·have q:=anT n d0;refine vb n (wa (I b) (wa (B (b==5)) (wn (bn q fun s1 e0 q=>?_))));rcases bo (b==5) with o | o
    ·obtain rfl:=orT o e0;refine vb o (pz (wa (B true) ?_));obtain rfl:=si q;exact vv (B true) (wln (jn f ⟨s,rfl⟩))
    have s0:=orF o e0;refine vb o (wa (I b) (wa (B (b==4)) (wn ?_)));obtain rfl:=si s0;refine va (B (b==4)) ?_;obtain rfl:=si q;exact vv (B (b==4)) (wln (jn f ⟨s,rfl⟩))
   obtain rfl:=anF n d0;exact vb n (pz (pz (pz (vv (B false) (wln (jn f ⟨s,rfl⟩))))))
  rintro z A ⟨t,y1,_,rfl,i2,rfl,x,rfl⟩;refine nrm (cn e (fun k1 e=>?_) (fun k1 e=>?_))
  ·refine W.skip (nrm ?_);obtain rfl:=si e;exact jn t ⟨x,rfl⟩
  refine bn e fun j0 f0 e=>W.join (Jn t fun c l=>Own c G (F)∧l= [(35,B j0)]) ?_ ?_
  ·clear e;refine W.region (va (I b) (va (B (b==6)) ?_));rcases bo (b==6) with p | p
   ·have t0:=anT p f0;refine vb p (wa (I a) (wa (B (a==6)) ?_));obtain rfl:=si t0;exact vv (B (a==6)) (wln (jn t ⟨x,rfl⟩))
   obtain rfl:=anF p f0;exact vb p (pz (vv (B false) (wln (jn t ⟨x,rfl⟩))))
  rintro z A ⟨y0,z1,_,rfl,j2,rfl,v0,rfl⟩;refine nrm ?_;obtain rfl:=si e;exact jn y0 ⟨v0,rfl⟩
 rintro z A ⟨Z,a2,_,rfl,k2,rfl,T,rfl⟩;refine cn h (fun m1 h=>?_) (fun m1 h=>?_)
 ·refine sr (va (I 2) (wln (W.ret (bkr (thr ?_)))));obtain rfl:=si h;exact r1 (qq Z ⟨T,rfl⟩)
 refine W.skip (bkn (nrm (sr (va (I 0) (wln (W.ret ?_))))));obtain rfl:=si h;exact r1 (qq Z ⟨T,rfl⟩)
def au (p0:az) (p1:ae):Option (Bool):=
 if (!p0.some)=true then
 some false
 else
 ((cy (p1.Conj==1) (some (p0.conj==2))).bind fun a=>
 if a=true then
 some (a)
 else
 (cy p1.Pict (some (p0.pict==2))).bind fun c=>
 some (c)).bind fun e=>
 if e=true then
 some true
 else
 (aJ p0.last p1.Break).bind fun b=>
 if (b==1)=true then
 some true
 else
 if (b==2)=true then
 (cy (p0.last==6) (some p0.odd)).bind fun d=>
 some d
 else
 some false
theorem cx {b:Nat} (a:az) (e:ae) (O0:Own c0 G ((Eb b 100 [B a.some,I a.last,I a.pict,I a.conj,B a.odd]) :: F)) {r:Bool} (H:au a e=some r): Calls prog 94 #[Q b,.agg #[I e.Break,B e.Pict,I e.Conj,I e.East]] c0.w (aR c0 fun c v=>Own c G ((Eb b 100 [B a.some,I a.last,I a.pict,I a.conj,B a.odd]) :: F)∧v=B r):=by
 unfold au at H;refine en func94 rfl rfl (sr (me (bx 33 [I e.Break,B e.Pict,I e.Conj,I e.East] O0) ?_));rintro v5 s l4 ⟨p,rfl,q,M⟩;refine va (B false) (wln (W.seq (sr (vv (Q b) (va (Q b) (vx (le1 0 u_4 (q.on 0 rfl)) (va (B (!a.some)) (wln (cn H (fun h6 H=>?_) (fun h6 H=>?_))))))))))
 ·refine sr (va (B false) (wln (W.ret (thr ?_))));obtain rfl:=si H;exact r1 (qq s ⟨q,rfl⟩)
 refine W.skip (nrm (W.seq (W.block (bn H fun P f d=>W.seqJ (Jn s fun c l=>Own c G ((Eb b 100 [B a.some,I a.last,I a.pict,I a.conj,B a.odd]) :: F)∧l= [(0,Q b),(3,Q p),(10,B P)]) ?_ ?_))))
 ·refine W.seq (bn f fun z h9 f=>W.join (Jn s fun c l=>Own c G ((Eb b 100 [B a.some,I a.last,I a.pict,I a.conj,B a.odd]) :: F)∧l= [(0,Q b),(3,Q p),(10,B z)]) ?_ ?_)
  ·clear f;refine W.region (va (Qo p (0+2)) (vx (l1 u_3 (M 2 _ rfl)) (va (B (e.Conj==1)) ?_)));rcases bo (e.Conj==1) with j | j
   ·have R:=anT j h9;refine vb j (wa (Q b) (wa (Q b) (wa (Qo b 3) (wn (vx (le1 3 u_3 (q.on 0 rfl)) (wa (B (a.conj==2)) ?_))))));obtain rfl:=si R;exact vv (B (a.conj==2)) (wln (jn s ⟨q,rfl⟩))
   obtain rfl:=anF j h9;exact vb j (pz (pz (ps (vv (B false) (wln (jn s ⟨q,rfl⟩))))))
  rintro E N ⟨o,u0,_,rfl,y0,rfl,n,rfl⟩;refine nrm (cn f (fun e0 f=>?_) (fun e0 f=>?_))
  ·refine W.skip (nrm ?_);obtain rfl:=si f;exact jn o ⟨n,rfl⟩
  refine bn f fun A x f=>W.join (Jn o fun c l=>Own c G ((Eb b 100 [B a.some,I a.last,I a.pict,I a.conj,B a.odd]) :: F)∧l= [(0,Q b),(3,Q p),(10,B A)]) ?_ ?_
  ·clear f;refine W.region (va (Qo p (0+1)) (vx (l1 u_4 ((mm M) 1 _ rfl)) ?_));rcases bo (e.Pict) with k | k
   ·have S:=anT k x;refine vb k (wa (Q b) (wa (Q b) (wa (Qo b 2) (wn (vx (le1 2 u_3 (n.on 0 rfl)) (wa (B (a.pict==2)) ?_))))));obtain rfl:=si S;exact vv (B (a.pict==2)) (wln (jn o ⟨n,rfl⟩))
   obtain rfl:=anF k x;exact vb k (pz (pz (ps (vv (B false) (wln (jn o ⟨n,rfl⟩))))))
  rintro E N ⟨Z,v0,_,rfl,z0,rfl,U,rfl⟩;refine nrm ?_;obtain rfl:=si f;exact jn Z ⟨U,rfl⟩
 rintro E N ⟨a0,w0,_,rfl,a1,rfl,t,rfl⟩;refine cn d (fun f0 d=>?_) (fun f0 d=>?_)
 ·refine sr (va (B true) (wln (W.ret (bkr (thr ?_)))));obtain rfl:=si d;exact r1 (qq a0 ⟨t,rfl⟩)
 refine W.skip (bkn (nrm (W.seq (W.seq (rD [] (Kp G0 [(Eb b 100 [B a.some,I a.last,I a.pict,I a.conj,B a.odd])]) t ?_)))));intro b0 c1 u;have l0:Kp G0 [(Eb b 100 [B a.some,I a.last,I a.pict,I a.conj,B a.odd])] b0:=(Kp.cons (u.on 0 rfl) Kp.nil0);refine ta 0 (Q b) (ta 1 (Q b) (ta 2 (Qo b 1) (tkx 3 l0 (fun c' k0 hk=>le1 1 u_3 (hk.on 0 rfl)) (ta 4 (Q p) (tx 5 (fun c' k0=>l1 u_3 ((mm M) 0 _ rfl)) (bn d fun i g0 d=>o1 6 (gc 6 (fm u a.last e.Break g0) ?_)))))));rintro v44 h d1 ⟨g,rfl⟩;have m0:Kp G0 [(Eb b 100 [B a.some,I a.last,I a.pict,I a.conj,B a.odd])] h:=(Kp.cons (g.on 0 rfl) Kp.nil0);refine ⟨.inr m0,dn (nrm (W.block (sr (vv (B (i==1)) (wln (cn d (fun h0 d=>?_) (fun h0 d=>?_)))))))⟩
 ·refine sr (va (B true) (wln (W.ret (bkr (thr ?_)))));obtain rfl:=si d;exact r1 (qq h ⟨g,rfl⟩)
 refine sr (vv (B (i==2)) (wln (cn d (fun i0 d=>?_) (fun i0 d=>?_))))
 ·refine W.seq (bn d fun D y d=>W.join (Jn h fun c l=>Own c G ((Eb b 100 [B a.some,I a.last,I a.pict,I a.conj,B a.odd]) :: F)∧l= [(4,B D)]) ?_ ?_)
  ·clear d;refine W.region (vv (Q b) (va (Qo b 1) (vx (le1 1 u_3 (g.on 0 rfl)) (va (B (a.last==6)) ?_))));rcases bo (a.last==6) with m | m
   ·have T:=anT m y;refine vb m (wa (Q b) (wa (Q b) (wa (Qo b 4) (wn (vx (le1 4 u_4 (g.on 0 rfl)) ?_)))));obtain rfl:=si T;exact vv (B a.odd) (wln (jn h ⟨g,rfl⟩))
   obtain rfl:=anF m y;exact vb m (pz (pz (vv (B false) (wln (jn h ⟨g,rfl⟩)))))
  rintro E N ⟨d0,x0,_,rfl,e1,rfl,X,rfl⟩;refine nrm (W.ret (bkr (thr ?_)));obtain rfl:=si d;exact r1 (qq d0 ⟨X,rfl⟩)
 refine W.skip (bkn (nrm (sr (va (B false) (wln (W.ret ?_))))));obtain rfl:=si d;exact r1 (qq h ⟨g,rfl⟩)
def an (p0:az) (p1:ae):Option (Int):=
 if p1.Pict=true then
 some 1
 else
 (cy (p0.pict==1) (some (p1.Break==4))).bind fun a=>
 if a=true then
 some 1
 else
 (cy (p0.pict==1) (some (p1.Break==5))).bind fun b=>
 if b=true then
 some 2
 else
 some 0
theorem cm {b:Nat} (a:az) (d:ae) (A:Own c0 G ((Eb b 100 [B a.some,I a.last,I a.pict,I a.conj,B a.odd]) :: F)) {r:Int} (H:an a d=some r): Calls prog 95 #[Q b,.agg #[I d.Break,B d.Pict,I d.Conj,I d.East]] c0.w (aR c0 fun c v=>Own c G ((Eb b 100 [B a.some,I a.last,I a.pict,I a.conj,B a.odd]) :: F)∧v=I r):=by
 unfold an at H;refine en func95 rfl rfl (sr (me (bx 33 [I d.Break,B d.Pict,I d.Conj,I d.East] A) ?_));rintro v5 k T ⟨j,rfl,i,s⟩;refine va (I 0) (wln (W.seq (W.block (sr (va (Qo j (0+1)) (vx (l1 u_4 (s 1 _ rfl)) (va (B d.Pict) (wln (cn H (fun E H=>?_) (fun E H=>?_))))))))))
 ·refine sr (va (I 1) (wln (W.ret (bkr (thr ?_)))));obtain rfl:=si H;exact r1 (qq k ⟨i,rfl⟩)
 refine W.seq (bn H fun p y H=>W.join (Jn k fun c l=>Own c G ((Eb b 100 [B a.some,I a.last,I a.pict,I a.conj,B a.odd]) :: F)∧l= [(0,Q b),(3,Q j),(8,B p)]) ?_ ?_)
 ·clear H;refine W.region (vv (Q b) (va (Qo b 2) (vx (le1 2 u_3 (i.on 0 rfl)) (va (B (a.pict==1)) ?_))));rcases bo (a.pict==1) with h | h
  ·have z:=anT h y;refine vb h (wa (Q j) (wn (vx (l1 u_3 (s 0 _ rfl)) (wa (B (d.Break==4)) ?_))));obtain rfl:=si z;exact vv (B (d.Break==4)) (wln (jn k ⟨i,rfl⟩))
  obtain rfl:=anF h y;exact vb h (pz (ps (vv (B false) (wln (jn k ⟨i,rfl⟩)))))
 rintro D M ⟨g,N,_,rfl,R,rfl,f,rfl⟩;refine nrm (cn H (fun u H=>?_) (fun u H=>?_))
 ·refine sr (va (I 1) (wln (W.ret (bkr (thr ?_)))));obtain rfl:=si H;exact r1 (qq g ⟨f,rfl⟩)
 refine W.seq (bn H fun q o H=>W.join (Jn g fun c l=>Own c G ((Eb b 100 [B a.some,I a.last,I a.pict,I a.conj,B a.odd]) :: F)∧l= [(19,B q)]) ?_ ?_)
 ·clear H;refine W.region (vv (Q b) (va (Qo b 2) (vx (le1 2 u_3 (f.on 0 rfl)) (va (B (a.pict==1)) ?_))));rcases bo (a.pict==1) with e | e
  ·have t:=anT e o;refine vb e (wa (Q j) (wn (vx (l1 u_3 ((mm s) 0 _ rfl)) (wa (B (d.Break==5)) ?_))));obtain rfl:=si t;exact vv (B (d.Break==5)) (wln (jn g ⟨f,rfl⟩))
  obtain rfl:=anF e o;exact vb e (pz (ps (vv (B false) (wln (jn g ⟨f,rfl⟩)))))
 rintro D M ⟨n,P,_,rfl,S,rfl,m,rfl⟩;refine nrm (cn H (fun x H=>?_) (fun x H=>?_))
 ·refine sr (va (I 2) (wln (W.ret (bkr (thr ?_)))));obtain rfl:=si H;exact r1 (qq n ⟨m,rfl⟩)
 refine W.skip (bkn (nrm (sr (va (I 0) (wln (W.ret ?_))))));obtain rfl:=si H;exact r1 (qq n ⟨m,rfl⟩)
def am (p0:az) (p1:ae):Option (Int):=
 if (p1.Conj==1)=true then
 some 1
 else
 if (p0.conj==0)=true then
 some 0
 else
 if (p1.Conj==2)=true then
 some 2
 else
 if (p1.Conj==3)=true then
 some p0.conj
 else
 some 0
theorem b9 {b:Nat} (d:az) (a:ae) (i:Own c0 G ((Eb b 100 [B d.some,I d.last,I d.pict,I d.conj,B d.odd]) :: F)) {r:Int} (H:am d a=some r): Calls prog 96 #[Q b,.agg #[I a.Break,B a.Pict,I a.Conj,I a.East]] c0.w (aR c0 fun c v=>Own c G ((Eb b 100 [B d.some,I d.last,I d.pict,I d.conj,B d.odd]) :: F)∧v=I r):=by
 unfold am at H;refine en func96 rfl rfl (sr (me (bx 33 [I a.Break,B a.Pict,I a.Conj,I a.East] i) ?_));rintro v5 f n ⟨g,rfl,e,h⟩;refine va (I 0) (wln (W.seq (W.block (sr (va (Qo g (0+2)) (vx (l1 u_3 (h 2 _ rfl)) (vv (B (a.Conj==1)) (wln (cn H (fun j H=>?_) (fun j H=>?_))))))))))
 ·refine sr (va (I 1) (wln (W.ret (bkr (thr ?_)))));obtain rfl:=si H;exact r1 (qq f ⟨e,rfl⟩)
 refine sr (vv (Q b) (va (Qo b 3) (vx (le1 3 u_3 (e.on 0 rfl)) (vv (B (d.conj==0)) (wln (cn H (fun k H=>?_) (fun k H=>?_)))))))
 ·refine sr (va (I 0) (wln (W.ret (bkr (thr ?_)))));obtain rfl:=si H;exact r1 (qq f ⟨e,rfl⟩)
 refine sr (va (Qo g (0+2)) (vx (l1 u_3 (h 2 _ rfl)) (vv (B (a.Conj==2)) (wln (cn H (fun l H=>?_) (fun l H=>?_))))))
 ·refine sr (va (I 2) (wln (W.ret (bkr (thr ?_)))));obtain rfl:=si H;exact r1 (qq f ⟨e,rfl⟩)
 refine sr (va (Qo g (0+2)) (vx (l1 u_3 (h 2 _ rfl)) (vv (B (a.Conj==3)) (wln (cn H (fun m H=>?_) (fun m H=>?_))))))
 ·refine sr (vv (Q b) (va (Qo b 3) (vx (le1 3 u_3 (e.on 0 rfl)) (va (I d.conj) (wln (W.ret (bkr (thr ?_))))))));obtain rfl:=si H;exact r1 (qq f ⟨e,rfl⟩)
 refine W.skip (bkn (nrm (sr (va (I 0) (wln (W.ret ?_))))));obtain rfl:=si H;exact r1 (qq f ⟨e,rfl⟩)
def av (p0:az) (p1:ae):Option (az×Bool):=
 if false=true then
 some (p0,false)
 else
 (au p0 p1).bind fun d=>
 (an p0 p1).bind fun e=>
 (am p0 p1).bind fun f=>
 (cy (p1.Break==6) ((cy p0.some (some (p0.last==6))).bind fun b=>
 (cy b (some p0.odd)).bind fun c=>
 some (!c))).bind fun a=>
 some ((⟨true,p1.Break,e,f,a⟩:az),d)
theorem cK {a:Nat} (b:az) (f:ae) (O0:Own c0 G ((Eb a 100 [B b.some,I b.last,I b.pict,I b.conj,B b.odd]) :: F)) {r:az×Bool} (H:av b f=some r): Calls prog 77 #[Q a,.agg #[I f.Break,B f.Pict,I f.Conj,I f.East]] c0.w (aR c0 fun c v=>Own c G ((Eb a 100 [B r.1.some,I r.1.last,I r.1.pict,I r.1.conj,B r.1.odd]) :: F)∧v=B r.2):=by
 unfold av at H;refine en func77 rfl rfl (sr (me (bx 33 [I f.Break,B f.Pict,I f.Conj,I f.East] O0) ?_));rintro v5 c4 l4 ⟨A,rfl,O2,o⟩;refine va (B false) (wln (W.seq (sr (va (Q a) (va (B false) (wln (W.cond (t:=false) (by kernel_rfl) (fun E=>?_) (fun E=>?_))))))))
 ·cases E
 have H:=ie E H;refine W.skip (nrm (sr (va (Q a) (vx (lN 33 o) (bn H fun i h8 H=>cl (cx b f O2 h8) ?_)))));rintro v14 j1 n1 ⟨P,rfl⟩;refine va (B i) (wln (W.seq (rD [] (Kp G0 []) P ?_)));intro i0 q1 R;have e2:Kp G0 [] i0:=Kp.nil0;refine ta 0 (Q a) (ta 1 (Q a) (ta 2 (Q a) (tx 3 (fun c' z=>lN 33 (mm o)) (ta 5 (Q a) (tx 6 (fun c' z=>lN 33 (mm o)) (bn H fun d v0 H=>o1 4 (gc 4 (cm b f R v0) ?_)))))));rintro v25 j0 s1 ⟨S,rfl⟩;have y0:Kp G0 [] j0:=Kp.nil0;refine ⟨.inr y0,bn H fun e w0 H=>o1 7 (gc 7 (b9 b f S w0) ?_)⟩;rintro v34 k0 t1 ⟨T,rfl⟩;have z0:Kp G0 [] k0:=Kp.nil0;refine ⟨.inr z0,ta 8 (Q a) (ta 9 (Qo a 2) (o1 10 (gD 10 (sC 3 2 (I d) [B b.some,I b.last,I d,I b.conj,B b.odd] 0 T ⟨rfl,trivial⟩) ?_)))⟩;rintro l0 u1 U;have a1:Kp G0 [] l0:=Kp.nil0;refine ⟨.inr a1,ta 11 (Q a) (ta 12 (Qo a 3) (o1 13 (gD 13 (sC 3 3 (I e) [B b.some,I b.last,I d,I e,B b.odd] 0 U ⟨rfl,trivial⟩) ?_)))⟩;rintro p v1 h;have c1:Kp G0 [] p:=Kp.nil0;refine ⟨.inr c1,dn (nrm (W.seq (bn H fun n s H=>W.join (Jn p fun c l=>Own c G ((Eb a 100 [B b.some,I b.last,I d,I e,B n]) :: F)∧l= [(0,Q a),(3,Q A),(5,B i)]) ?_ ?_)))⟩
 ·clear H;refine W.region (va (Q a) (va (Q A) (vx (l1 u_3 ((mm o) 0 _ rfl)) (va (B (f.Break==6)) ?_))));rcases bo (f.Break==6) with j | j
  ·have g:=anT j s;refine vb j (wa (Q a) (wa (Q a) (wa (Q a) (wn (vx (le1 0 u_4 (h.on 0 rfl)) (wn (bn g fun h1 u g=>?_)))))));rcases bo (b.some) with k | k
   ·have M:=anT k u;refine vb k (wa (Q a) (wa (Q a) (wa (Qo a 1) (wn (vx (le1 1 u_3 (h.on 0 rfl)) (wa (B (b.last==6)) (wn ?_)))))));obtain rfl:=si M;refine va (B (b.last==6)) (wn (bn g fun D x g=>?_));rcases bo (b.last==6) with m | m
    ·have N:=anT m x;refine vb m (wa (Q a) (wa (Q a) (wa (Qo a 4) (wn (vx (le1 4 u_4 (h.on 0 rfl)) (wn ?_))))));obtain rfl:=si N;refine va (B b.odd) (wa (B (!b.odd)) ?_);obtain rfl:=si g;refine va (B (!b.odd)) (va (Q a) (va (Qo a 4) (md (sC 4 4 (B (!b.odd)) [B b.some,I b.last,I d,I e,B (!b.odd)] 0 h ⟨rfl,trivial⟩) ?_)));rintro m0 w1 X;exact wln (jn m0 ⟨X,rfl⟩)
    obtain rfl:=anF m x;refine vb m (pz (pz (wa (B false) (wa (B (!false)) ?_))));obtain rfl:=si g;refine va (B (!false)) (va (Q a) (va (Qo a 4) (md (sC 4 4 (B (!false)) [B b.some,I b.last,I d,I e,B (!false)] 0 h ⟨rfl,trivial⟩) ?_)));rintro o0 x1 Z;exact wln (jn o0 ⟨Z,rfl⟩)
   obtain rfl:=anF k u;refine vb k (pz (pz (ps (wa (B false) (wn (bn g fun D x0 g=>?_))))));have y:false=false:=rfl;obtain rfl:=anF y x0;refine vb y (pz (pz (wa (B false) (wa (B (!false)) ?_))));obtain rfl:=si g;refine va (B (!false)) (va (Q a) (va (Qo a 4) (md (sC 4 4 (B (!false)) [B b.some,I b.last,I d,I e,B (!false)] 0 h ⟨rfl,trivial⟩) ?_)));rintro q0 y1 a0;exact wln (jn q0 ⟨a0,rfl⟩)
  obtain rfl:=anF j s;refine vb j (pz (pz (pz (pz (pz (pz (pz (pz (pz (va (B false) (va (Q a) (va (Qo a 4) (md (sC 4 4 (B false) [B b.some,I b.last,I d,I e,B false] 0 h ⟨rfl,trivial⟩) ?_)))))))))))));rintro s0 z1 b0;exact wln (jn s0 ⟨b0,rfl⟩)
 rintro e_ w_ ⟨k1,m1,_,rfl,a2,rfl,d0,rfl⟩;refine nrm (W.seq (rD [] (Kp G0 []) d0 ?_));intro t0 b2 e0;have f2:Kp G0 [] t0:=Kp.nil0;refine ta 0 (Q a) (ta 1 (Q a) (ta 2 (Q A) (tx 3 (fun c' z=>l1 u_3 ((mm o) 0 _ rfl)) (ta 4 (Q a) (ta 5 (Q a) (o1 6 (gD 6 (sC 4 0 (B true) [B true,I b.last,I d,I e,B n] 0 e0 ⟨rfl,trivial⟩) ?_)))))));rintro u0 c2 f0;have d1:Kp G0 [] u0:=Kp.nil0;refine ⟨.inr d1,ta 7 (Q a) (ta 8 (Qo a 1) (o1 9 (gD 9 (sC 3 1 (I f.Break) [B true,I f.Break,I d,I e,B n] 0 f0 ⟨rfl,trivial⟩) ?_)))⟩;rintro q d2 g0;have e1:Kp G0 [] q:=Kp.nil0;refine ⟨.inr e1,dn (nrm (sr (vv (B i) (wln (W.ret ?_)))))⟩;obtain rfl:=si H;exact r1 (qq q ⟨g0,rfl⟩)
end Go.Proofs.Ytmncdniojmigeaa
