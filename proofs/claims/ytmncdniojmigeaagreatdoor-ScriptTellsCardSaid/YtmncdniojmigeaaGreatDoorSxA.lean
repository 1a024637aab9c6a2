/- Parts of the proofs of ScriptLines, ScriptReads, ScriptTells: the walk through the code, and plain Lean. No condition. -/
import Derived.WalkKit
import Derived.KernelRfl
import Derived.TacticsIn
import Derived.LoopNIn
import Derived.OrdersIn
import Derived.Laws.BytesString
import Derived.Laws.Concat
import Derived.Laws.Strings
import Derived.Laws.Strings2
import Derived.Laws.Strings3
import Derived.Laws.Slices
import Derived.Test.YtmncdniojmigeaaGreatDoorProg
import Derived.Shelf.Strings.Split
import Derived.Shelf.Strings.Cut
import Derived.Shelf.Strings.SlTrimAscii
import Derived.Shelf.Small.Wraps
import Derived.Shelf.Small.Strs
import Derived.Lib.ItoaMem
import Derived.Lib.ConvBytes
import Derived.Lib.LaidTab
import Derived.Shelf.Strconv.Itoa3
import Derived.Shelf.Strconv.Atoi
import Derived.Shelf.Strings.OnBuilder
import Derived.LaidEql
import Derived.Stop.Asserts
import Derived.RowKitTokens
import Derived.Elder7
set_option linter.unusedVariables false
set_option linter.unusedSimpArgs false
abbrev eF:=@Go.Addr.add_lit
abbrev qv:=@Array.empty_append
abbrev bC:=@Array.getD_eq_getD_getElem?
abbrev pw:=@Array.getElem?_append
abbrev aQ:=@Array.getElem?_eq_none
abbrev ja:=@Array.getElem?_modify
abbrev qb:=@Array.length_toList
abbrev iZ:=@Array.mem_of_getElem?
abbrev ai:=@Bool.and_eq_true
abbrev dW:=@Bool.false_eq_true
abbrev qz:=@Bool.not_eq_false
abbrev dD:=@Bool.not_eq_true'
abbrev ef:=@Bool.not_true
abbrev aw:=@Bool.or_eq_true
abbrev fT:=@Go.ByteArray.toList_eq
abbrev qE:=@Go.DataW.trod_slice
abbrev lx:=@Go.DataW.trod_struct
abbrev oe:=@Go.ChangeMaps.open_string
abbrev eS:=@Go.WideShapes.add_plain
abbrev lv:=@Iff.rfl
abbrev gH:=@Int.toNat_natCast
abbrev ij:=@List.all_eq_true
abbrev aP:=@List.append_assoc
abbrev iP:=@List.append_nil
abbrev bV:=@List.cons.inj
abbrev cg:=@List.cons_append
abbrev pv:=@List.contains_iff_mem
abbrev dC:=@List.count_append
abbrev pT:=@List.count_cons_self
abbrev eD:=@List.count_le_length
abbrev oc:=@List.dropWhile_cons_of_neg
abbrev oa:=@List.dropWhile_cons_of_pos
abbrev mv:=@List.drop_append_of_le_length
abbrev dx:=@List.drop_eq_getElem_cons
abbrev dg:=@List.drop_left
abbrev cI:=@List.eq_nil_of_length_eq_zero
abbrev lu:=@List.flatten_cons
abbrev nZ:=@List.getD_eq_getElem?_getD
abbrev bO:=@List.getElem?_append_left
abbrev cp:=@List.getElem?_append_right
abbrev ii:=@List.getElem?_cons_succ
abbrev aA:=@List.getElem?_cons_zero
abbrev eN:=@List.getElem?_drop
abbrev ak:=@List.getElem?_eq_getElem
abbrev ep:=@List.getElem?_map
abbrev qa:=@List.getElem?_range
abbrev dB:=@List.getElem?_set_ne
abbrev cR:=@List.getElem?_set_self
abbrev cA:=@List.getElem?_take
abbrev bQ:=@List.getElem?_toArray
abbrev lT:=@List.getElem_map
abbrev aF:=@List.getElem_mem
abbrev qH:=@List.head?_cons
abbrev od:=@List.isEmpty_eq_false_iff
abbrev aa:=@List.length_append
abbrev ab:=@List.length_cons
abbrev cU:=@List.length_drop
abbrev aG:=@List.length_map
abbrev au:=@List.length_nil
abbrev mV:=@List.length_set
abbrev am:=@List.length_singleton
abbrev aI:=@List.length_take
abbrev dZ:=@List.map_append
abbrev dI:=@List.map_congr_left
abbrev fE:=@List.map_cons
abbrev jQ:=@List.map_id
abbrev fu:=@List.map_map
abbrev oN:=@List.map_take
abbrev qG:=@List.mem_append
abbrev br:=@List.mem_append_left
abbrev fC:=@List.mem_append_right
abbrev aT:=@List.mem_cons
abbrev fI:=@List.mem_cons_of_mem
abbrev jP:=@List.mem_of_getElem?
abbrev pS:=@List.mem_of_mem_take
abbrev gl:=@List.mem_singleton
abbrev dY:=@List.nil_append
abbrev bi:=@List.not_mem_nil
abbrev dV:=@List.set_cons_zero
abbrev qy:=@List.size_toArray
abbrev fB:=@List.take_append_drop
abbrev mu:=@List.take_append_of_le_length
abbrev jO:=@List.take_left
abbrev bz:=@List.take_length
abbrev iH:=@List.take_of_length_le
abbrev an:=@List.take_succ_eq_append_getElem
abbrev dA:=@Nat.add_mul
abbrev pu:=@Nat.add_zero
abbrev iY:=@Nat.ble_eq_true_of_le
abbrev iX:=@Nat.eq_of_beq_eq_true
abbrev eM:=@Nat.eq_zero_or_pos
abbrev bB:=@Nat.le_of_ble_eq_true
abbrev aD:=@Nat.le_refl
abbrev cD:=@Nat.le_trans
abbrev aS:=@Nat.lt_of_lt_of_le
abbrev ft:=@Nat.lt_one_iff
abbrev bf:=@Nat.lt_or_ge
abbrev fH:=@Nat.mul_le_mul_right
abbrev bL:=@Nat.ne_of_lt
abbrev gG:=@Nat.one_mul
abbrev be:=@Nat.succ_pos
abbrev dz:=@Nat.zero_add
abbrev eC:=@Nat.zero_le
abbrev pr:=@Nat.zero_mul
abbrev oM:=@Go.Oper.semAt_eq
abbrev qx:=@Go.Oper.uponIn_value
abbrev eR:=@Option.bind_eq_some_iff
abbrev ig:=@Option.bind_some
abbrev qF:=@Option.map_some
abbrev ao:=@Option.some.inj
abbrev az:=@Option.some.injEq
abbrev kp:=@Prod.mk.injEq
abbrev bF:=@Go.RowKit.Below.heap_alloc
abbrev eo:=@Go.RowKit.Below.refl
abbrev nY:=@Go.RowKit.frozen?_alloc_cells
abbrev fr:=@Go.Sem.run_bind
abbrev pq:=@Go.Sem.run_pure
abbrev gM:=@Sum.inl.injEq
abbrev qr:=@UInt8.toNat_ofNat'
abbrev bK:=@Go.World.cell?_alloc_lt
abbrev bJ:=@Go.World.cell?_of_block
abbrev qB:=@Go.World.cell?_spot
abbrev eQ:=@Go.World.frozen?_alloc_old
abbrev qp:=@Go.World.keptBut_mono
abbrev iO:=@Go.World.var?_cell
abbrev cq:=@beq_eq_false_iff_ne
abbrev ah:=@beq_iff_eq
abbrev kN:=@bne_iff_ne
abbrev jF:=@Go.cell_of_row
abbrev qn:=@cond_false
abbrev cf:=@congrArg
abbrev ce:=@decide_eq_false_iff_not
abbrev av:=@decide_eq_true
abbrev ag:=@decide_eq_true_eq
abbrev ph:=@dif_neg
abbrev pg:=@dif_pos
abbrev qk:=@Go.execOp_put
abbrev pH:=@Go.getD_set_ne
abbrev ge:=@Go.heap_alloc_new
abbrev nB:=@if_false
abbrev ae:=@if_neg
abbrev ac:=@if_pos
abbrev gx:=@not_false_eq_true
abbrev eh:=@of_decide_eq_true
abbrev et:=@or_false
abbrev qi:=@Go.ready_mono
abbrev qw:=@Go.run_bytesToString
abbrev aq:=@Go.run_callFunc_extern
abbrev qe:=@Go.run_sliceAt_string
abbrev bR:=@Go.run_underlying
abbrev ly:=@Go.wpIn_mono
abbrev mW:=@Go.wpListIn_plain
namespace Go.Lt
structure Fr where
 n:Nat
 df:List Deferred
 ro:Option Nat
instance:CoeOut Fr Nat:=⟨Fr.n⟩
def fen (r:Option Nat):Fence:={ Fence.wide with round:=r}
def act (n:Fr) (e:Nat→Value):Act:={ tmps:=((List.range n.n).map e).toArray,defers:=n.df}
def ev (n:Nat) (e:Nat→Value):Operand→Value
 | .tmp t=>cond (Nat.ble (t+1) n) (e t) undef
 | .const v=>v
 | .global g=> .pointer (some ⟨g,0,none⟩)
 | .func f=> .func (.func f) #[] #[]
def up (e:Nat→Value) (d:Nat) (v:Value):Nat→Value:=fun t=>cond (Nat.beq t d) v (e t)
def upO (e:Nat→Value):Option Nat→Value→(Nat→Value)
 | some d,v=>up e d v
 | none,_=>e
theorem fq (n:Fr) (e:Nat→Value):(act n e).eval=ev n e:=by
 funext x
 cases x with
 | tmp t=>
  simp only [Act.eval,act,ev];by_cases h:t < n.n
  ·have:Nat.ble (t+1) n.n=true:=iY h;simp [h,this]
  ·have:Nat.ble (t+1) n.n=false:=by
    cases hb:Nat.ble (t+1) n.n with
    | false=>rfl
    | true=>exact absurd (bB hb) h
   simp [h,this]
 | const v=>rfl
 | global g=>rfl
 | func f=>rfl
theorem ic (n:Fr) (e:Nat→Value) (d:Option Nat) (v:Value):(act n e).put d v=act n (upO e d v):=by
 cases d with
 | none=>rfl
 | some d=>
  simp only [Act.put,act,upO]
  congr 1
  apply Array.ext
  ·simp
  ·intro i h1 h2;simp only [qy,aG,List.length_range,Array.size_setIfInBounds] at h1 h2;by_cases hi:d=i
   ·subst hi; simp [up]
   ·have:Nat.beq i d=false:=by
     cases hb:Nat.beq i d with
     | false=>rfl
     | true=>exact absurd (iX hb).symm hi
    simp [up,hi,this]
def qc:Exit→Prop
 | .panic _=>False
 | .outgrown=>False
 | _=>True
def kX (n:Fr) (Q:Exit→(Nat→Value)→World→Prop):Exit→Act→World→Prop:=fun x a w=>qc x∧∃e,a=act n e∧Q x e w
def W (P:Program) (n:Fr) (c:Code) (Q:Exit→(Nat→Value)→World→Prop) (e:Nat→Value) (w:World):Prop:=c.wpIn (fen n.ro) 0 P (kX n Q) (act n e) w
def iJ (K:(Nat→Value)→World→Prop) (Q:Exit→(Nat→Value)→World→Prop):Exit→(Nat→Value)→World→Prop
 | .normal,e,w=>K e w
 | x,e,w=>Q x e w
def gL (id:Nat) (Q:Exit→(Nat→Value)→World→Prop):Exit→(Nat→Value)→World→Prop
 | .exit i,e,w=>cond (Nat.beq i id) (Q .normal e w) (Q (.exit i) e w)
 | x,e,w=>Q x e w
section
variable {P:Program} {n:Fr} {Q Q':Exit→(Nat→Value)→World→Prop} {e:Nat→Value} {w:World} {a b:Code}
theorem W.mono (h:W P n a Q e w) (hq:∀x e w,Q x e w→Q' x e w):W P n a Q' e w:=
 ly h fun x _ w ⟨ht,e,ha,hQ⟩=>⟨ht,e,ha,hq x e w hQ⟩
theorem W.seq (h:W P n a (iJ (W P n b Q) Q) e w):W P n (a.seq b) Q e w:=
 wpIn_seq (ly h fun x a' w' ⟨ht,e',ha,hQ⟩=>by
  subst ha
  cases x with
  | normal=>exact hQ
  | _=>exact ⟨ht,e',rfl,hQ⟩)
theorem W.seqJ (J:(Nat→Value)→World→Prop) (h:W P n a (iJ J Q) e w) (hJ:∀e w,J e w→W P n b Q e w):W P n (a.seq b) Q e w:=
 W.seq (W.mono h fun x e w hx=>by cases x <;> first | exact hJ _ _ hx | exact hx)
theorem W.skip (h:Q .normal e w):W P n .skip Q e w:=wpIn_skip ⟨trivial,e,rfl,h⟩
theorem W.ret (h:Q .ret e w):W P n .ret Q e w:=wpIn_ret ⟨trivial,e,rfl,h⟩
theorem W.exit {id:Nat} (h:Q (.exit id) e w):W P n (.exit id) Q e w:=wpIn_exit ⟨trivial,e,rfl,h⟩
theorem W.block {id:Nat} (h:W P n a (gL id Q) e w):W P n (.block id a) Q e w:=
 wpIn_block (ly h fun x a' w' ⟨ht,e',ha,hQ⟩=>by
  subst ha
  cases x with
  | exit i=>
   simp only [Exit.inBlock];by_cases hi:i=id
   ·subst hi;rw [ac rfl];exact ⟨trivial,e',rfl,by simpa [gL] using hQ⟩
   ·rw [ae hi];have:Nat.beq i id=false:=by
     cases hb:Nat.beq i id with
     | false=>rfl
     | true=>exact absurd (iX hb) hi
    exact ⟨trivial,e',rfl,by simpa [gL,this] using hQ⟩
  | _=>exact ⟨ht,e',rfl,hQ⟩)
theorem W.cond {c:Operand} {t:Bool} (hc:ev n e c= .bool t) (ht:t=true→W P n a Q e w) (hf:t=false→W P n b Q e w):W P n (.cond c a b) Q e w:=
 wpIn_cond_split (by rw [fq]; exact hc) ht hf
def WL (P:Program) (ops:Array Oper) (n:Fr) (Q:Exit→(Nat→Value)→World→Prop) (l:List Oper) (e:Nat→Value) (w:World):Prop:=
 wpListIn (fen n.ro) 0 P ops (kX n Q) l (act n e) w
theorem W.region {id:Nat} {l:List Oper} (h:WL P l.toArray n Q l e w):W P n (.region id l.toArray false) Q e w:=wpIn_region_lit h
variable {ops:Array Oper} {o:Oper} {rest:List Oper}
theorem WL.nil (h:Q .normal e w):WL P ops n Q [] e w:=⟨trivial,e,rfl,h⟩
theorem gP {r:Option Nat} {ρ:Operand→Value} {w w':World} {x:Next} (h:(execOp ρ o).run P w= .ok x w') (hx:∀d,x≠ .defer d):(o.semAt r ρ).run P w= .ok x w':=by
 by_cases hd:∀c,o.op≠ .defer c
 ·rw [oM r ρ o hd]; exact h
 ·obtain ⟨c,hc⟩:=Classical.not_forall.1 hd;have hc:=Classical.not_not.1 hc;unfold execOp at h;rw [hc] at h;simp only [fr,pq] at h
  cases hr:(resolve ρ c o.type).run P w with
  | ok d w1=>rw [hr] at h; simp only [Result.andThen,Result.ok.injEq] at h; exact absurd h.1.symm (hx d)
  | halt h1 w1=>rw [hr] at h; simp [Result.andThen] at h
theorem lj {r:Option Nat} {k:Nat} {f:FuncId} {args:Array Value} {w:World} {R:Ending→World→Prop} (h:Calls P f args w R):CallsIn (fen r) k P f args w R:=(callsIn_wide (n:=k)).2 h
theorem ni {v:Value} {w':World} {K:Act→World→Prop} {Qa:Exit→Act→World→Prop} (hr:(execOp (ev n e) o).run P w= .ok (.value v) w') (h:K (act n (upO e o.dst v)) w'):o.wpIn (fen n.ro) 0 P (act n e) w K Qa:=by
 refine ⟨fun _ _=>trivial,?_⟩;rw [fq,gP hr (by simp),qx,ic];exact h
theorem oQ {w':World} {K:Act→World→Prop} {Qa:Exit→Act→World→Prop} (hr:(execOp (ev n e) o).run P w= .ok .skip w') (h:K (act n (upO e o.dst undef)) w'):o.wpIn (fen n.ro) 0 P (act n e) w K Qa:=by
 refine ⟨fun _ _=>trivial,?_⟩;rw [fq,gP hr (by simp),Oper.uponIn_skip,ic];exact h
theorem lZ {f:FuncId} {args:Array Value} {w':World} {K:Act→World→Prop} {Qa:Exit→Act→World→Prop} (hr:(execOp (ev n e) o).run P w= .ok (.enter f args) w')
  (hc:Calls P f args w' fun x w''=>∃v,x= .returned v∧K (act n (upO e o.dst v)) w''):o.wpIn (fen n.ro) 0 P (act n e) w K Qa:=by
 refine ⟨fun _ _=>trivial,?_⟩;rw [fq,gP hr (by simp),Oper.uponIn_enter];refine ⟨fun h=>(by cases h),(lj hc).mono ?_⟩;rintro x w'' ⟨v,rfl,h⟩;simp only [ic];exact h
theorem WL.val {v:Value} {w':World} (hg:o.guard=none) (hr:(execOp (ev n e) o).run P w= .ok (.value v) w') (h:WL P ops n Q rest (upO e o.dst v) w'):WL P ops n Q (o :: rest) e w:=
 mW hg fun K hK=>ni hr (hK _ _ h)
theorem WL.do_ {w':World} (hg:o.guard=none) (hr:(execOp (ev n e) o).run P w= .ok .skip w') (h:WL P ops n Q rest (upO e o.dst undef) w'):WL P ops n Q (o :: rest) e w:=
 mW hg fun K hK=>oQ hr (hK _ _ h)
theorem WL.call {f:FuncId} {args:Array Value} {w':World} (hg:o.guard=none) (hr:(execOp (ev n e) o).run P w= .ok (.enter f args) w')
  (hc:Calls P f args w' fun x w''=>∃v,x= .returned v∧WL P ops n Q rest (upO e o.dst v) w''):WL P ops n Q (o :: rest) e w:=
 mW hg fun K hK=>lZ hr (hc.mono fun x w'' ⟨v,hx,h⟩=>⟨v,hx,hK _ _ h⟩)
def yl (ops:Array Oper) (n:Nat) (e:Nat→Value) (j:Nat):Option Bool:=
 match (ops[j]?).bind Oper.dst with
 | some d=>match ev n e (.tmp d) with
  | .bool b=>some b
  | _=>none
 | none=>none
def cS (ops:Array Oper) (n:Nat) (e:Nat→Value) (o:Oper):Bool:=
 match o.guard with
 | none=>true
 | some (j,want)=>yl ops n e j==some want
theorem fF (ops:Array Oper) (n:Fr) (e:Nat→Value) (o:Oper) (h:∀d,(∃j:Nat,(ops[j]?).bind Oper.dst=some d)→d < n.n):
  Region.wanted o (yielded ops (act n e).tmps)=cS ops n e o:=by
 unfold Region.wanted cS
 cases hg:o.guard with
 | none=>rfl
 | some jw=>
  obtain ⟨j,want⟩:=jw;simp only
  congr 1
  unfold yielded yl
  cases hd:(ops[j]?).bind Oper.dst with
  | none=>rfl
  | some d=>
   have hdn:=h d ⟨j,hd⟩;have:Nat.ble (d+1) n.n=true:=iY hdn;simp only [act,ev,ig,this,cond_true];simp only [bQ,ep,qa hdn,qF]
   cases e d <;> rfl
def cj (n:Nat):List Oper→Bool
 | []=>true
 | o :: l=>(match o.dst with | some d=>Nat.ble (d+1) n | none=>true) && cj n l
theorem dS {n:Nat} {l:List Oper} (h:cj n l=true) (d:Nat) (hd:∃j:Nat,(l.toArray[j]?).bind Oper.dst=some d):d < n:=by
 obtain ⟨j,hj⟩:=hd;simp only [bQ] at hj
 induction l generalizing j with
 | nil=>simp at hj
 | cons o l ih=>
  simp only [cj,ai] at h
  cases j with
  | zero=>
   simp only [aA,ig] at hj;rw [hj] at h;exact bB h.1
  | succ j=>exact ih h.2 j (by simpa using hj)
theorem WL.pass {l:List Oper} (hs:cj n l=true) (hw:cS l.toArray n e o=false) (h:WL P l.toArray n Q rest (upO e o.dst undef) w):WL P l.toArray n Q (o :: rest) e w:=by
 have hww:Region.wanted o (yielded l.toArray (act n e).tmps)=false:=by rw [fF _ _ _ _ (dS hs)]; exact hw
 unfold WL wpListIn;rw [ae (by rw [hww]; simp),ic];exact ⟨fun _ _=>trivial,h⟩
theorem WL.want {l:List Oper} (hs:cj n l=true) (hw:cS l.toArray n e o=true) (h:WL P l.toArray n Q ({ o with guard:=none} :: rest) e w):WL P l.toArray n Q (o :: rest) e w:=by
 have hww:Region.wanted o (yielded l.toArray (act n e).tmps)=true:=by rw [fF _ _ _ _ (dS hs)]; exact hw
 have hg:Region.wanted ({ o with guard:=none}:Oper) (yielded l.toArray (act n e).tmps)=true:=rfl;unfold WL wpListIn at h⊢;rw [ac hww];rw [ac hg] at h;exact h
theorem W.join (J:(Nat→Value)→World→Prop) (h:W P n a (iJ J (fun _ _ _=>False)) e w) (hJ:∀e w,J e w→Q .normal e w):W P n a Q e w:=
 W.mono h fun x e w hx=>by cases x <;> first | exact hJ _ _ hx | exact hx.elim
theorem nrm {K:(Nat→Value)→World→Prop} (h:K e w):iJ K Q .normal e w:=h
theorem thx {K:(Nat→Value)→World→Prop} {i:Nat} (h:Q (.exit i) e w):iJ K Q (.exit i) e w:=h
theorem thr {K:(Nat→Value)→World→Prop} (h:Q .ret e w):iJ K Q .ret e w:=h
theorem bkn {i:Nat} (h:Q .normal e w):gL i Q .normal e w:=h
theorem bkr {i:Nat} (h:Q .ret e w):gL i Q .ret e w:=h
theorem bke {i:Nat} (h:Q .normal e w):gL i Q (.exit i) e w:=by
 have:Nat.beq i i=true:=Nat.beq_refl i;simpa [gL,this] using h
theorem WL.valb {t b:Bool} {w':World} (ht:t=b) (hg:o.guard=none) (hr:(execOp (ev n e) o).run P w= .ok (.value (.bool t)) w') (h:WL P ops n Q rest (upO e o.dst (.bool b)) w'):WL P ops n Q (o :: rest) e w:=by
 subst ht;exact WL.val hg hr h
theorem WL.val0 {v:Value} (hg:o.guard=none) (hr:(execOp (ev n e) o).run P w= .ok (.value v) w) (h:WL P ops n Q rest (upO e o.dst v) w):WL P ops n Q (o :: rest) e w:=WL.val hg hr h
theorem WL.valb0 {t b:Bool} (ht:t=b) (hg:o.guard=none) (hr:(execOp (ev n e) o).run P w= .ok (.value (.bool t)) w) (h:WL P ops n Q rest (upO e o.dst (.bool b)) w):WL P ops n Q (o :: rest) e w:=WL.valb ht hg hr h
def cT {σ τ:Type}:Nat→(σ→Option (σ ⊕ τ))→σ→Option τ
 | 0,_,_=>none
 | n+1,f,s=>(f s).bind fun x=>match x with
  | .inl s'=>cT n f s'
  | .inr t=>some t
def lpQ {σ τ:Type} (F:σ→(Nat→Value)→World→Prop) (Out:τ→Exit→(Nat→Value)→World→Prop) (x:σ ⊕ τ):Exit→(Nat→Value)→World→Prop
 | .normal,e,w=>∃s,x= .inl s∧F s e w
 | ex,e,w=>∃t,x= .inr t∧Out t ex e w
theorem W.loop {σ τ:Type} {step:σ→Option (σ ⊕ τ)} (F:σ→(Nat→Value)→World→Prop) (Out:τ→Exit→(Nat→Value)→World→Prop)
  (hb:∀s x e w,step s=some x→F s e w→W P n a (lpQ F Out x) e w) {fuel:Nat} {s:σ} {t:τ} (H:cT fuel step s=some t) (h0:F s e w)
  (hQ:∀x e w,Out t x e w→Q x e w):W P n (.loop a) Q e w:=by
 refine wpIn_loop_rounds fuel ?_
 induction fuel generalizing s e w with
 | zero=>cases H
 | succ k ih=>
  rw [roundsIn_succ];simp only [cT] at H
  cases hs:step s with
  | none=>rw [hs] at H; cases H
  | some x=>
   rw [hs] at H;refine ly (hb s x e w hs h0) ?_;rintro y a' w' ⟨ht,e',rfl,hq⟩
   cases x with
   | inl s'=>
    cases y with
    | normal=>
     obtain ⟨s1,h1,h2⟩:=hq;cases h1;exact ih H h2
    | _=>obtain ⟨t1,h1,_⟩:=hq; cases h1
   | inr t'=>
    have:t'=t:=by simpa using H
    subst this
    cases y with
    | normal=>obtain ⟨s1,h1,_⟩:=hq; cases h1
    | _=>obtain ⟨t1,h1,h2⟩:=hq; cases h1; exact ⟨ht,e',rfl,hQ _ _ _ h2⟩
def ar:List Value→Nat→Value
 | [],_=>undef
 | v :: _,0=>v
 | _ :: l,t+1=>ar l t
def fA (P:Program) (fn:Func) (n:Fr) (R:Ending→World→Prop):Exit→(Nat→Value)→World→Prop
 | .normal,e,w=>∃v,(results fn (act n e).tmps).run P w= .ok v w∧R (.returned v) w
 | .ret,e,w=>∃v,(results fn (act n e).tmps).run P w= .ok v w∧R (.returned v) w
 | _,_,_=>False
theorem pp (n:Nat) (l:List Value) (h:l.length≤n):act ⟨n,[],none⟩ (ar l)= { tmps:=l.toArray++Array.replicate (n - l.length) undef,defers:=[]}:=by
 unfold act
 congr 1
 apply Array.ext';apply List.ext_getElem
 ·simp; omega
 ·intro i h1 h2;simp only [lT,List.getElem_range,Array.toList_append,Array.toList_replicate];have key:∀(l:List Value) (i:Nat) (h:i < l.length),ar l i=l[i]:=by
   intro l
   induction l with
   | nil=>intro i h; simp at h
   | cons v l ih=>
    intro i h
    cases i with
    | zero=>rfl
    | succ i=>exact ih i (by simpa using h)
  have key2:∀(l:List Value) (i:Nat) (h:l.length≤i),ar l i=undef:=by
   intro l
   induction l with
   | nil=>intro i h; rfl
   | cons v l ih=>
    intro i h
    cases i with
    | zero=>simp at h
    | succ i=>exact ih i (by simpa using h)
  by_cases hi:i < l.length
  ·rw [List.getElem_append_left hi]; exact key l i hi
  ·rw [List.getElem_append_right (by omega)]; rw [key2 l i (by omega)]; simp
theorem enter {f:FuncId} {fn:Func} {code:Code} {n:Nat} {l:List Value} {w:World} {R:Ending→World→Prop} (hf:P.funcs[f]? = some fn) (hb:fn.body=some code) (hn:fn.ntmps=n)
  (hl:Nat.ble l.length n=true) (h:W P ⟨n,[],none⟩ code (fA P fn ⟨n,[],none⟩ R) (ar l) w):Calls P f l.toArray w R:=by
 subst hn;have hl:=bB hl;refine (callsIn_wide (n:=0)).1 (callsIn_of_wp hf hb trivial ?_);rw [qy,←pp _ l hl];refine ly h ?_;rintro x a w' ⟨_,e',rfl,hq⟩
 cases x <;> first | exact ⟨rfl,hq⟩ | exact hq.elim
theorem dR (n:Fr) (e:Nat→Value) (t:Nat):(act n e).tmps.getD t undef=ev n e (.tmp t):=by
 rw [←fq]; rfl
theorem qh {fn:Func} {R:Ending→World→Prop} (hr:fn.results= #[]) (h:R (.returned (.tuple #[])) w):fA P fn n R .ret e w:=
 ⟨_,results_none hr _ _ _,h⟩
theorem ql {fn:Func} {R:Ending→World→Prop} (hr:fn.results= #[]) (h:R (.returned (.tuple #[])) w):fA P fn n R .normal e w:=
 ⟨_,results_none hr _ _ _,h⟩
theorem ot {fn:Func} {R:Ending→World→Prop} {t:Nat} {v:Value} (hr:fn.results= #[.tmp t]) (hv:ev n e (.tmp t)=v) (h:R (.returned v) w):fA P fn n R .ret e w:=
 ⟨_,results_tmp hr _ _ _,by rw [dR,hv]; exact h⟩
theorem qg {fn:Func} {R:Ending→World→Prop} {t u:Nat} {v v':Value} (hr:fn.results= #[.tmp t,.tmp u]) (hv:ev n e (.tmp t)=v) (hu:ev n e (.tmp u)=v') (h:R (.returned (.tuple #[v,v'])) w):fA P fn n R .ret e w:=
 ⟨_,results_tmp2 hr _ _ _,by rw [dR,dR,hv,hu]; exact h⟩
def ups (e:Nat→Value):List (Nat×Value)→(Nat→Value)
 | []=>e
 | (t,v) :: l=>up (ups e l) t v
def holds (e:Nat→Value):List (Nat×Value)→Prop
 | []=>True
 | (t,v) :: l=>e t=v∧holds e l
theorem oh (e:Nat→Value) {t:Nat} {v:Value} (h:e t=v):up e t v=e:=by
 funext i
 unfold up;by_cases hb:Nat.beq i t=true
 ·rw [hb,iX hb]; exact h.symm
 ·simp [hb]
theorem fZ:∀{l:List (Nat×Value)} {e:Nat→Value},holds e l→e=ups e l
 | [],_,_=>rfl
 | (t,v) :: l,e,h=>by
  have:=fZ (l:=l) h.2;rw [ups,←this];exact (oh e h.1).symm
end
def w64 (n:Int):Int:=IntKind.i64.wrap n
def ny (x y:Int):Int:=if y > x then y else x
theorem bs {α β:Type} {x:Option α} {f:α→Option β} {r:β} (h:x.bind f=some r):∃a,x=some a∧f a=some r:=by
 cases x with
 | none=>cases h
 | some a=>exact ⟨a,rfl,h⟩
theorem it {α:Type} {b:Bool} {x y:Option α} {r:α} (hb:b=true) (h:(if b=true then x else y)=some r):x=some r:=by rw [ac hb] at h; exact h
theorem ie {α:Type} {b:Bool} {x y:Option α} {r:α} (hb:b=false) (h:(if b=true then x else y)=some r):y=some r:=by rw [ae (by simp [hb])] at h; exact h
def orE (t:Bool) (x:Option Bool):Option Bool:=if t=true then some true else x
def bW (t:Bool) (x:Option Bool):Option Bool:=if t=true then x else some false
theorem orT {t:Bool} {x:Option Bool} {d:Bool} (ht:t=true) (h:orE t x=some d):d=true:=by simp [orE,ht] at h; exact h
theorem orF {t:Bool} {x:Option Bool} {d:Bool} (ht:t=false) (h:orE t x=some d):x=some d:=by simpa [orE,ht] using h
theorem anT {t:Bool} {x:Option Bool} {d:Bool} (ht:t=true) (h:bW t x=some d):x=some d:=by simpa [bW,ht] using h
theorem anF {t:Bool} {x:Option Bool} {d:Bool} (ht:t=false) (h:bW t x=some d):d=false:=by simp [bW,ht] at h; exact h
end Go.Lt
namespace Go.Lt
structure Cx where
 w:World
 A:Nat→Nat→Prop
 t:Nat→Nat→Option Nat
structure Cx.le (c c':Cx):Prop where
 os:c'.w.os=c.w.os
 output:c'.w.output=c.w.output
 size:c.w.heap.size≤c'.w.heap.size
 cell:∀k o,k < c.w.heap.size→¬c.A k o→c'.w.cell? ⟨k,o,none⟩=c.w.cell? ⟨k,o,none⟩∧¬c'.A k o
 block:∀k,k < c.w.heap.size→(∀o,¬c.A k o)→c'.w.heap[k]? = c.w.heap[k]?
 frz:∀a,a.block < c.w.heap.size→¬c.A a.block a.off→c'.w.frozen? a=c.w.frozen? a
 t:∀g k b,c.t g k=some b→c'.t g k=some b
theorem Cx.le.refl (c:Cx):c.le c:=⟨rfl,rfl,aD _,fun _ _ _ h=>⟨rfl,h⟩,fun _ _ _=>rfl,fun _ _ _=>rfl,fun _ _ _ h=>h⟩
theorem Cx.le.trans {a b c:Cx} (h:a.le b) (k:b.le c):a.le c:=
 ⟨k.os.trans h.os,k.output.trans h.output,cD h.size k.size,fun i o hi hA=>by
  obtain ⟨h1,h2⟩:=h.cell i o hi hA;obtain ⟨k1,k2⟩:=k.cell i o (aS hi h.size) h2;exact ⟨k1.trans h1,k2⟩,fun i hi hA=>(k.block i (aS hi h.size) fun o=>(h.cell i o hi (hA o)).2).trans (h.block i hi hA),
  fun a ha hA=>(k.frz a (aS ha h.size) (h.cell _ _ ha hA).2).trans (h.frz a ha hA),fun g i b hb=>k.t g i b (h.t g i b hb)⟩
structure Cx.lw (c c':Cx):Prop where
 os:c'.w.os=c.w.os
 output:c'.w.output=c.w.output
 size:c.w.heap.size≤c'.w.heap.size
 cell:∀k o,k < c.w.heap.size→¬c.A k o→c'.w.cell? ⟨k,o,none⟩=c.w.cell? ⟨k,o,none⟩∧¬c'.A k o
 block:∀k vs T f,c.w.heap[k]? = some (.cells vs T f)→(∀o,¬c.A k o)→c'.w.heap[k]? = c.w.heap[k]?
 frz:∀a,a.block < c.w.heap.size→¬c.A a.block a.off→c'.w.frozen? a=c.w.frozen? a
 t:∀g k b,c.t g k=some b→c'.t g k=some b
theorem Cx.le.lw {c c':Cx} (h:c.le c'):c.lw c':=⟨h.os,h.output,h.size,h.cell,fun k _ _ _ hk hA=>h.block k (Array.getElem?_eq_some_iff.1 hk).1 hA,h.frz,h.t⟩
instance {c c':Cx}:Coe (c.le c') (c.lw c'):=⟨Cx.le.lw⟩
structure Cx.but (D:Nat→Prop) (c c':Cx):Prop where
 le:c.le c'
 t:c'.t=c.t
 same:∀k,k < c.w.heap.size→¬D k→c'.w.heap[k]? = c.w.heap[k]?∧∀o,c'.A k o↔c.A k o
def Gr (w w':World):Prop:=w.keptBut w' (fun _=>False)∧(∀a,a.block < w.heap.size→w'.frozen? a=w.frozen? a)∧w.heap.size≤w'.heap.size
theorem Gr.frame {w w':World} (h:Gr w w') (may:MemPlace→Prop):w.keptBut w' may:=qp (fun _ f=>f.elim) h.1
theorem Cx.le.grown {w:World} {c':Cx} (h:Cx.le ⟨w,fun _ _=>False,fun _ _=>none⟩ c'):Gr w c'.w:=
 ⟨⟨h.os,h.output,fun i hi=>by
  rw [h.block i hi fun _=>id];have:=World.keptBut_refl w fun _=>False;exact this.2.2 i hi⟩,fun a ha=>h.frz a ha id,h.size⟩
structure Im (c:Cx) (b o:Nat) (v:Value):Prop where
 lt:b < c.w.heap.size
 nA:¬c.A b o
 cell:c.w.cell? ⟨b,o,none⟩=some v
theorem Im.lw {c c':Cx} {b o:Nat} {v:Value} (h:Im c b o v) (k:c.lw c'):Im c' b o v:=by
 obtain ⟨h1,h2⟩:=k.cell b o h.lt h.nA;exact ⟨aS h.lt k.size,h2,h1.trans h.cell⟩
theorem Im.mono {c c':Cx} {b o:Nat} {v:Value} (h:Im c b o v) (k:c.le c'):Im c' b o v:=h.lw k.lw
structure Rp (α:Type) where
 size:Nat
 cells:Cx→List Value→α→Prop
 len:∀{c l x},cells c l x→l.length=size
 one:∀{c l x},cells c l x→∀v∈l,v.oneCell'=true
 mono:∀{c c' l x},c.lw c'→cells c l x→cells c' l x
def RI (k:IntKind):Rp Int where
 size:=1
 cells:=fun _ l n=>l= [.int k n]
 len:=fun h=>by simp [h]
 one:=fun h v hv=>by rw [h] at hv; simp at hv; subst hv; rfl
 mono:=fun _ h=>h
def RS:Rp ByteArray where
 size:=1
 cells:=fun _ l n=>l= [.string n]
 len:=fun h=>by simp [h]
 one:=fun h v hv=>by rw [h] at hv; simp at hv; subst hv; rfl
 mono:=fun _ h=>h
def Sl {α:Type} (R:Rp α) (c:Cx) (v:Value) (xs:List α):Prop:=
 ∃a cap,v= .slice a xs.length cap∧xs.length≤cap∧cap≤maxLen∧
  ∀i x,xs[i]? = some x→∃b off l,a=some ⟨b,off,none⟩∧R.cells c l x∧∀j u,l[j]? = some u→Im c b (off+i * R.size+j) u
theorem Sl.lw {α:Type} {R:Rp α} {c c':Cx} {v:Value} {xs:List α} (h:Sl R c v xs) (k:c.lw c'):Sl R c' v xs:=by
 obtain ⟨a,cap,h1,h2,h3,h4⟩:=h;refine ⟨a,cap,h1,h2,h3,fun i x hx=>?_⟩;obtain ⟨b,off,l,e,hl,hc⟩:=h4 i x hx;exact ⟨b,off,l,e,R.mono k hl,fun j u hu=>(hc j u hu).lw k⟩
theorem Sl.mono {α:Type} {R:Rp α} {c c':Cx} {v:Value} {xs:List α} (h:Sl R c v xs) (k:c.le c'):Sl R c' v xs:=h.lw k.lw
theorem Sl.one {α:Type} {R:Rp α} {c:Cx} {v:Value} {xs:List α} (h:Sl R c v xs):v.oneCell'=true:=by
 obtain ⟨a,cap,rfl,_⟩:=h; rfl
theorem Sl.len_le {α:Type} {R:Rp α} {c:Cx} {v:Value} {xs:List α} (h:Sl R c v xs):xs.length≤9223372036854775807:=by
 obtain ⟨a,cap,_,h1,h2,_⟩:=h;unfold maxLen at h2;omega
theorem Sl.nil {α:Type} (R:Rp α) (c:Cx) (a:Option Addr) (cap:Nat) (h:cap≤maxLen):Sl R c (.slice a 0 cap) []:=
 ⟨a,cap,rfl,eC _,h,fun i x hx=>by simp at hx⟩
theorem Sl.nl {α:Type} (R:Rp α) (c:Cx):Sl R c (.slice none 0 0) []:=Sl.nil R c none 0 (eC _)
def RL {α:Type} (R:Rp α):Rp (List α) where
 size:=1
 cells:=fun c l xs=>∃v,l= [v]∧Sl R c v xs
 len:=fun ⟨v,h,_⟩=>by simp [h]
 one:=fun ⟨v,h,hs⟩ u hu=>by rw [h] at hu; simp at hu; subst hu; exact hs.one
 mono:=fun k ⟨v,h,hs⟩=>⟨v,h,hs.lw k⟩
def Pt (g:Nat) (c:Cx) (v:Value):Option Nat→Prop
 | none=>v= .pointer none
 | some k=>∃b,v= .pointer (some ⟨b,0,none⟩)∧c.t g k=some b
theorem Pt.lw {g:Nat} {c c':Cx} {v:Value} {p:Option Nat} (h:Pt g c v p) (k:c.lw c'):Pt g c' v p:=by
 cases p with
 | none=>exact h
 | some p=>obtain ⟨b,h1,h2⟩:=h; exact ⟨b,h1,k.t _ _ _ h2⟩
theorem Pt.mono {g:Nat} {c c':Cx} {v:Value} {p:Option Nat} (h:Pt g c v p) (k:c.le c'):Pt g c' v p:=h.lw k.lw
theorem Pt.get {g:Nat} {c:Cx} {v:Value} {p:Option Nat} {k:Nat} (h:Pt g c v p) (hp:p=some k):∃b,v= .pointer (some ⟨b,0,none⟩)∧c.t g k=some b:=by subst hp; exact h
inductive Er where
 | nil
 | sent (g:Nat)
 | fault (i:Int) (e:Er)
structure Fz (c:Cx) (b:Nat):Prop where
 lt:b < c.w.heap.size
 nA:∀o,¬c.A b o
 blk:∃vs T,c.w.heap[b]? = some (.cells vs T (0,0))
theorem Fz.lw {c c':Cx} {b:Nat} (h:Fz c b) (k:c.lw c'):Fz c' b:=by
 obtain ⟨vs,T,hb⟩:=h.blk;exact ⟨aS h.lt k.size,fun o=>(k.cell b o h.lt (h.nA o)).2,vs,T,(k.block b _ _ _ hb h.nA).trans hb⟩
theorem Fz.mono {c c':Cx} {b:Nat} (h:Fz c b) (k:c.le c'):Fz c' b:=h.lw k.lw
def RE (S T:TypeId) (c:Cx):Value→Er→Prop
 | v,.nil=>v= .nilIface
 | v,.sent g=>∃a,v= .iface S (.pointer (some a))∧Im c g 0 v∧Fz c a.block
 | v,.fault i e=>∃b u,v= .iface T (.pointer (some ⟨b,0,none⟩))∧Im c b 0 (.int .i64 i)∧Im c b 1 u∧RE S T c u e
theorem RE.lw {S T:TypeId} {c c':Cx} {v:Value} {e:Er} (h:RE S T c v e) (k:c.lw c'):RE S T c' v e:=by
 induction e generalizing v with
 | nil=>exact h
 | sent g=>obtain ⟨b,h,hi,hf⟩:=h; exact ⟨b,h,hi.lw k,hf.lw k⟩
 | fault i e ih=>obtain ⟨b,u,h,h1,h2,h3⟩:=h; exact ⟨b,u,h,h1.lw k,h2.lw k,ih h3⟩
theorem RE.mono {S T:TypeId} {c c':Cx} {v:Value} {e:Er} (h:RE S T c v e) (k:c.le c'):RE S T c' v e:=h.lw k.lw
theorem RE.im {S T:TypeId} {c:Cx} {v:Value} {g:Nat} (h:RE S T c v (.sent g)):Im c g 0 v:=by
 obtain ⟨b,_,h,_⟩:=h; exact h
def Er.isNil:Er→Bool
 | .nil=>true
 | _=>false
def sb:Value→Nat
 | .slice (some a) _ _=>a.block
 | _=>0
def so:Value→Nat
 | .slice (some a) _ _=>a.off
 | _=>0
theorem Sl.at {α:Type} {R:Rp α} {c:Cx} {v:Value} {xs:List α} (h:Sl R c v xs) {i:Nat} {x:α} (hx:xs[i]? = some x):
  ∃l,R.cells c l x∧∀j u,l[j]? = some u→Im c (sb v) (so v+i * R.size+j) u:=by
 obtain ⟨a,cap,rfl,_,_,h4⟩:=h;obtain ⟨b,off,l,rfl,hl,hc⟩:=h4 i x hx;exact ⟨l,hl,hc⟩
def idx {α:Type} (xs:List α) (i:Int):Option α:=if 0≤i then xs[i.toNat]? else none
def slc {α:Type} (xs:List α) (i j:Int):Option (List α):=if 0≤i∧i≤j∧j≤xs.length then some ((xs.drop i.toNat).take (j - i).toNat) else none
def far:Nat:=1099511627776
def app {α:Type} (xs ys:List α):Option (List α):=if xs.length+ys.length≤far then some (xs++ys) else none
theorem bS {α:Type} {xs:List α} {i:Int} {x:α} (h:idx xs i=some x):xs[i.toNat]? = some x:=by
 unfold idx at h;split at h
 ·exact h
 ·cases h
theorem iC {α:Type} {xs:List α} {i:Int} {x:α} (h:idx xs i=some x):0≤i∧i < xs.length:=by
 have:=bS h;unfold idx at h;split at h
 ·have:=(List.getElem?_eq_some_iff.1 this).1;omega
 ·cases h
structure En where
 v:Value
 T:TypeId
 vs:List Value
 lim:Nat
def blk:Value→Option Nat
 | .pointer (some a)=>some a.block
 | .slice (some a) _ _=>some a.block
 | _=>none
def En.on (e:En) (c:Cx):Prop:=∀b,blk e.v=some b→c.w.heap[b]? = some (.cells e.vs.toArray e.T (0,0))∧∀o,c.A b o↔e.lim≤o
def apart (e e':En):Prop:=∀b,blk e.v=some b→blk e'.v=some b→False
def iS:En:=⟨.nilIface,0,[],0⟩
abbrev Gm:=Nat→Nat→List En
def at_ (G:Gm) (F:List En):Nat ⊕ (Nat×Nat×Nat)→Option En
 | .inl k=>F[k]?
 | .inr (g,k,r)=>(G g k)[r]?
def fX {ι:Type} (c:Cx) (M:ι→Option En):Prop:=(∀i e,M i=some e→e.on c)∧∀i j e e',M i=some e→M j=some e'→i≠j→apart e e'
theorem En.on.lt {e:En} {c:Cx} {b:Nat} (h:e.on c) (hb:blk e.v=some b):b < c.w.heap.size:=(Array.getElem?_eq_some_iff.1 (h b hb).1).1
theorem En.on.keep {e:En} {c c':Cx} (h:e.on c) (k:∀b,blk e.v=some b→c'.w.heap[b]? = c.w.heap[b]?∧∀o,c'.A b o↔c.A b o):e.on c':=fun b hb=>
 ⟨(k b hb).1.trans (h b hb).1,fun o=>((k b hb).2 o).trans ((h b hb).2 o)⟩
theorem mh (c:Cx):iS.on c:=fun b hb=>by cases hb
theorem jz (e:En):apart iS e:=fun b hb=>by cases hb
theorem jN (e:En):apart e iS:=fun b _ hb=>by cases hb
theorem fX.upd {ι:Type} {c c':Cx} {M M':ι→Option En} (h:fX c M) (i:ι) {D:Nat→Prop} (hb:c.but D c') (hD:∀b,D b→∃e,M i=some e∧blk e.v=some b) (hM:∀j,j≠i→M' j=M j)
  {e':En} (hi:M' i=some e') (hon:e'.on c') (hnew:∀b,blk e'.v=some b→(∃e,M i=some e∧blk e.v=some b)∨c.w.heap.size≤b):fX c' M':=by
 have key:∀j e,j≠i→M' j=some e→e.on c':=fun j e hj he=>by
  rw [hM j hj] at he;refine (h.1 j e he).keep fun b hbe=>hb.same b ((h.1 j e he).lt hbe) fun hd=>?_;obtain ⟨e2,h2,h3⟩:=hD b hd;exact h.2 j i e e2 he h2 hj b hbe h3
 have far:∀j e,j≠i→M' j=some e→apart e e':=fun j e hj he b h1 h2=>by
  rw [hM j hj] at he;rcases hnew b h2 with ⟨e2,h3,h4⟩ | h3
  ·exact h.2 j i e e2 he h3 hj b h1 h4
  ·exact absurd ((h.1 j e he).lt h1) (Nat.not_lt.2 h3)
 classical
 refine ⟨fun j e he=>?_,fun j k e e2 he he2 hjk=>?_⟩
 ·by_cases hj:j=i
  ·subst hj; rw [hi] at he; cases he; exact hon
  ·exact key j e hj he
 ·by_cases hj:j=i
  ·subst hj;rw [hi] at he; cases he;exact fun b h1 h2=>far k e2 (Ne.symm hjk) he2 b h2 h1
  ·by_cases hk:k=i
   ·subst hk; rw [hi] at he2; cases he2; exact far j e hj he
   ·rw [hM j hj] at he; rw [hM k hk] at he2; exact h.2 j k e e2 he he2 hjk
theorem fX.re {ι κ:Type} {c:Cx} {M:ι→Option En} {M':κ→Option En} (h:fX c M) (f:κ→ι) (hf:∀k e,M' k=some e→M (f k)=some e) (inj:∀k k' e e',M' k=some e→M' k'=some e'→f k=f k'→k=k'):fX c M':=
 ⟨fun k e he=>h.1 _ e (hf k e he),fun k k' e e' he he' hne=>h.2 _ _ e e' (hf k e he) (hf k' e' he') fun hh=>hne (inj k k' e e' he he' hh)⟩
structure Own (c:Cx) (G:Gm) (F:List En):Prop where
 m:fX c (at_ G F)
 t0:∀g k,G g k= []→c.t g k=none
section
variable {c c':Cx} {G:Gm} {F:List En}
theorem Own.on (O:Own c G F) (k:Nat) {e:En} (h:F[k]? = some e):e.on c:=O.m.1 (.inl k) e h
theorem Own.gon (O:Own c G F) {g k:Nat} {E:List En} (hE:G g k=E) (r:Nat) {e:En} (h:E[r]? = some e):e.on c:=O.m.1 (.inr (g,k,r)) e (by subst hE; exact h)
theorem Own.keep (O:Own c G F) (h:c.but (fun _=>False) c'):Own c' G F:=
 ⟨⟨fun i e he=>(O.m.1 i e he).keep fun b hb=>h.same b ((O.m.1 i e he).lt hb) id,O.m.2⟩,fun g k hk=>by rw [h.t]; exact O.t0 g k hk⟩
theorem Own.set (O:Own c G F) (k:Nat) {e e':En} {D:Nat→Prop} (hk:F[k]? = some e) (hb:c.but D c') (hD:∀b,D b→blk e.v=some b) (hon:e'.on c') (hnew:∀b,blk e'.v=some b→blk e.v=some b∨c.w.heap.size≤b):Own c' G (F.set k e'):=
 ⟨fX.upd O.m (.inl k) hb (fun b h=>⟨e,hk,hD b h⟩) (fun j hj=>by
  cases j with
  | inl j=>exact dB (fun e=>hj (by rw [e]))
  | inr j=>rfl) (e':=e') (cR (List.getElem?_eq_some_iff.1 hk).1) hon (fun b h=>(hnew b h).imp (fun h=>⟨e,hk,h⟩) id),fun g k hk=>by rw [hb.t]; exact O.t0 g k hk⟩
theorem Own.sel {F0:List En} {L:List En} (ix:List Nat) (O:Own c G (L++F0)) (hn:ix.Nodup) {L':List En} (hL:ix.map (fun i=>L[i]?)=L'.map some):Own c G (L'++F0):=by
 have hlen:ix.length=L'.length:=by have:=cf List.length hL; simpa using this
 have hget:∀(i:Nat) (hi:i < ix.length),L[ix[i]]? = some (L'[i]'(hlen▸ hi)):=fun i hi=>by
  have:=cf (fun l=>l[i]?) hL;simpa [ak hi,ak (hlen▸ hi:i < L'.length)] using this
 refine ⟨fX.re O.m (fun j=>match j with
  | .inl j=>if h:j < ix.length then .inl ix[j] else .inl (j - ix.length+L.length)
  | .inr j=> .inr j) ?_ ?_,O.t0⟩
 ·intro j e he
  cases j with
  | inr j=>exact he
  | inl j=>
   by_cases hj:j < ix.length
   ·simp only [hj,pg];have h2:=hget j hj;have hlt:=(List.getElem?_eq_some_iff.1 h2).1;simp only [at_] at he⊢;rw [bO (hlen▸ hj),ak (hlen▸ hj)] at he;rw [bO hlt,h2,he]
   ·simp only [hj,ph,gx];simp only [at_] at he⊢;rw [cp (by omega)] at he;rw [cp (by omega),←he]
    congr 1
    omega
 ·intro j j' e e' he he' hh
  cases j with
  | inr j=>
   cases j' with
   | inr j'=>exact hh
   | inl j'=>by_cases hj:j' < ix.length <;> simp [hj] at hh
  | inl j=>
   cases j' with
   | inr j'=>by_cases hj:j < ix.length <;> simp [hj] at hh
   | inl j'=>
    by_cases hj:j < ix.length
    ·have h1:=(List.getElem?_eq_some_iff.1 (hget j hj)).1;by_cases hj':j' < ix.length
     ·simp only [hj,hj',pg,gM] at hh;rw [(List.getElem_inj hn).1 hh]
     ·simp only [hj,hj',pg,ph,gx,gM] at hh;omega
    ·by_cases hj':j' < ix.length
     ·have h1:=(List.getElem?_eq_some_iff.1 (hget j' hj')).1;simp only [hj,hj',pg,ph,gx,gM] at hh;omega
     ·simp only [hj,hj',ph,gx,gM] at hh
      congr 1
      omega
theorem Own.cons (O:Own c G F) {e:En} {D:Nat→Prop} (hb:c.but D c') (hD:∀b,¬D b) (hon:e.on c') (hnew:∀b,blk e.v=some b→c.w.heap.size≤b):Own c' G (e :: F):=by
 have O1:fX c (at_ G (iS :: F)):=by
  refine ⟨fun i e he=>?_,fun i j e e' he he' hij=>?_⟩
  ·cases i with
   | inr i=>exact O.m.1 (.inr i) e he
   | inl i=>cases i with
    | zero=>cases he; exact mh c
    | succ i=>exact O.m.1 (.inl i) e he
  ·have pull:∀i,i≠ .inl 0→∀e,at_ G (iS :: F) i=some e→∃i',at_ G F i'=some e∧(match i' with | .inl k=>i= .inl (k+1) | .inr k=>i= .inr k):=fun i hi e he=>by
    cases i with
    | inr i=>exact ⟨.inr i,he,rfl⟩
    | inl i=>cases i with
     | zero=>exact absurd rfl hi
     | succ i=>exact ⟨.inl i,he,rfl⟩
   by_cases hi:i= .inl 0
   ·subst hi; cases he; exact jz _
   ·by_cases hj:j= .inl 0
    ·subst hj; cases he'; exact jN _
    ·obtain ⟨i',h1,h2⟩:=pull i hi e he;obtain ⟨j',h3,h4⟩:=pull j hj e' he';refine O.m.2 i' j' e e' h1 h3 fun hh=>hij ?_;subst hh
     cases i' <;> simp_all
 exact ⟨fX.upd O1 (.inl 0) hb (fun b h=>absurd h (hD b)) (fun j hj=>by
  cases j with
  | inr j=>rfl
  | inl j=>cases j with
   | zero=>exact absurd rfl hj
   | succ j=>rfl) (e':=e) rfl hon (fun b h=> .inr (hnew b h)),fun g k hk=>by rw [hb.t]; exact O.t0 g k hk⟩
theorem Own.addHole (O:Own c G F) {e:En} (he:blk e.v=none):Own c G (e :: F):=
 O.cons (D:=fun _=>False) ⟨Cx.le.refl c,rfl,fun _ _ _=>⟨rfl,fun _=>lv⟩⟩ (fun _=>id) (fun b hb=>by rw [he] at hb; cases hb) (fun b hb=>by rw [he] at hb; cases hb)
def eq (G:Gm) (g k:Nat) (E:List En):Gm:=fun g' k'=>if g'=g∧k'=k then E else G g' k'
theorem ct (G:Gm) (g k:Nat) (E:List En):eq G g k E g k=E:=by simp [eq]
theorem jg {c:Cx} {G:Gm} {g k:Nat} {E:List En} (h:∀g k,G g k= []→c.t g k=none) (hE:E= []→G g k= []):∀g' k',eq G g k E g' k'= []→c.t g' k'=none:=fun g' k' h'=>by
 simp only [eq] at h';split at h'
 ·rename_i hh
  obtain ⟨rfl,rfl⟩:=hh;exact h _ _ (hE h')
 ·exact h _ _ h'
theorem kt {α:Type} {E:List α} {r:Nat} {e:α} (h:E.set r e= []):E= []:=by
 have:=cf List.length h;rw [mV] at this;exact cI this
theorem eH {G:Gm} {g k g' k':Nat} {E:List En} (h:¬(g'=g∧k'=k)):eq G g k E g' k'=G g' k':=by simp only [eq,ae h]
theorem Own.setR (O:Own c G F) {g k:Nat} {E:List En} (r:Nat) {e e':En} {D:Nat→Prop} (hE:G g k=E) (hr:E[r]? = some e) (hb:c.but D c') (hD:∀b,D b→blk e.v=some b) (hon:e'.on c') (hnew:∀b,blk e'.v=some b→blk e.v=some b∨c.w.heap.size≤b):
  Own c' (eq G g k (E.set r e')) F:=by
 subst hE;refine ⟨fX.upd O.m (.inr (g,k,r)) hb (fun b h=>⟨e,hr,hD b h⟩) (fun j hj=>?_) (e':=e') ?_ hon (fun b h=>(hnew b h).imp (fun h=>⟨e,hr,h⟩) id),jg (fun g k hk=>by rw [hb.t]; exact O.t0 g k hk) kt⟩
 ·cases j with
  | inl j=>rfl
  | inr j=>
   obtain ⟨g',k',r'⟩:=j;by_cases h:g'=g∧k'=k
   ·obtain ⟨rfl,rfl⟩:=h;simp only [at_,ct];exact dB (fun e=>hj (by rw [e]))
   ·simp only [at_,eH h]
 ·simp only [at_,ct];exact cR (List.getElem?_eq_some_iff.1 hr).1
theorem Own.borrow (O:Own c G F) {g k:Nat} {E:List En} (r:Nat) {e:En} (hE:G g k=E) (hr:E[r]? = some e):Own c (eq G g k (E.set r iS)) (e :: F):=by
 subst hE;have hlt:=(List.getElem?_eq_some_iff.1 hr).1;have main:∀g' k' r' e1,at_ (eq G g k ((G g k).set r iS)) (e :: F) (.inr (g',k',r'))=some e1→(g',k',r')≠(g,k,r)→at_ G F (.inr (g',k',r'))=some e1:=fun g' k' r' e1 h1 hne=>by
  simp only [at_] at h1⊢;by_cases h:g'=g∧k'=k
  ·obtain ⟨rfl,rfl⟩:=h;rw [ct,dB (fun e=>hne (by rw [e]))] at h1;exact h1
  ·rwa [eH h] at h1
 have hh:∀e1,at_ (eq G g k ((G g k).set r iS)) (e :: F) (.inr (g,k,r))=some e1→e1=iS:=fun e1 h1=>by
  simp only [at_,ct] at h1;rw [cR hlt] at h1
  cases h1; rfl
 classical
 let f:Nat ⊕ (Nat×Nat×Nat)→Nat ⊕ (Nat×Nat×Nat):=fun j=>match j with
  | .inl 0=> .inr (g,k,r)
  | .inl (j+1)=> .inl j
  | .inr j=> .inr j
 have hf:∀j e1,j≠ .inr (g,k,r)→at_ (eq G g k ((G g k).set r iS)) (e :: F) j=some e1→at_ G F (f j)=some e1:=fun j e1 hj he=>by
  cases j with
  | inl j=>cases j with
   | zero=>cases he; exact hr
   | succ j=>exact he
  | inr j=>exact main j.1 j.2.1 j.2.2 e1 he (fun e=>hj (by rw [←e]))
 refine ⟨⟨fun j e1 he=>?_,fun j j' e1 e2 he he2 hne=>?_⟩,jg O.t0 kt⟩
 ·by_cases hj:j= .inr (g,k,r)
  ·subst hj; rw [hh e1 he]; exact mh c
  ·exact O.m.1 (f j) e1 (hf j e1 hj he)
 ·by_cases hj:j= .inr (g,k,r)
  ·subst hj; rw [hh e1 he]; exact jz _
  ·by_cases hj':j'= .inr (g,k,r)
   ·subst hj'; rw [hh e2 he2]; exact jN _
   ·refine O.m.2 (f j) (f j') e1 e2 (hf j e1 hj he) (hf j' e2 hj' he2) fun hff=>?_
    cases j with
    | inl j=>cases j with
     | zero=>cases j' with
      | inl j'=>cases j' with
       | zero=>exact hne rfl
       | succ j'=>simp [f] at hff
      | inr j'=>exact hj' (by simpa [f] using hff.symm)
     | succ j=>cases j' with
      | inl j'=>cases j' with
       | zero=>simp [f] at hff
       | succ j'=>exact hne (by simpa [f] using hff)
      | inr j'=>simp [f] at hff
    | inr j=>cases j' with
     | inl j'=>cases j' with
      | zero=>exact hj (by simpa [f] using hff)
      | succ j'=>simp [f] at hff
     | inr j'=>exact hne (by simpa [f] using hff)
theorem Own.give {e:En} (O:Own c G (e :: F)) {g k:Nat} {E:List En} (r:Nat) {e0:En} (hE:G g k=E) (hr:E[r]? = some e0):Own c (eq G g k (E.set r e)) F:=by
 subst hE;have hlt:=(List.getElem?_eq_some_iff.1 hr).1
 classical
 let f:Nat ⊕ (Nat×Nat×Nat)→Nat ⊕ (Nat×Nat×Nat):=fun j=>match j with
  | .inl j=> .inl (j+1)
  | .inr j=>if j=(g,k,r) then .inl 0 else .inr j
 refine ⟨fX.re O.m f (fun j e1 he=>?_) (fun j j' e1 e2 he he2 hff=>?_),jg O.t0 kt⟩
 ·cases j with
  | inl j=>exact he
  | inr j=>
   obtain ⟨g',k',r'⟩:=j;by_cases h0:(g',k',r')=(g,k,r)
   ·simp only [kp] at h0;obtain ⟨rfl,rfl,rfl⟩:=h0;simp only [at_,ct] at he;rw [cR hlt] at he;simp only [f,ac];exact he
   ·simp only [f,ae h0];simp only [at_] at he⊢;by_cases h:g'=g∧k'=k
    ·obtain ⟨rfl,rfl⟩:=h;rw [ct,dB (fun e=>h0 (by rw [e]))] at he;exact he
    ·rwa [eH h] at he
 ·cases j with
  | inl j=>cases j' with
   | inl j'=>simpa [f] using hff
   | inr j'=>by_cases h:j'=(g,k,r) <;> simp [f,h] at hff
  | inr j=>cases j' with
   | inl j'=>by_cases h:j=(g,k,r) <;> simp [f,h] at hff
   | inr j'=>
    by_cases h:j=(g,k,r)
    ·by_cases h':j'=(g,k,r)
     ·rw [h,h']
     ·simp [f,h,h'] at hff
    ·by_cases h':j'=(g,k,r)
     ·simp [f,h,h'] at hff
     ·simpa [f,h,h'] using hff
theorem kd (G:Gm) (g k:Nat) (E E':List En):eq (eq G g k E) g k E'=eq G g k E':=by
 funext g' k'
 simp only [eq];split <;> rfl
theorem Own.giveB {e:En} {g k:Nat} {E:List En} (r:Nat) {e0:En} (O:Own c (eq G g k E) (e :: F)) (hr:E[r]? = some e0):Own c (eq G g k (E.set r e)) F:=by
 have:=Own.give O r (ct G g k E) hr
 rwa [kd] at this
theorem fX.newObj {E:List En} (O:fX c (at_ G (E++F))) {g k:Nat} (hE:G g k= []):fX c (at_ (eq G g k E) F):=by
 classical
 let f:Nat ⊕ (Nat×Nat×Nat)→Nat ⊕ (Nat×Nat×Nat):=fun j=>match j with
  | .inl j=> .inl (j+E.length)
  | .inr j=>if j.1=g∧j.2.1=k then .inl j.2.2 else .inr j
 have hr:∀r e,at_ (eq G g k E) F (.inr (g,k,r))=some e→r < E.length:=fun r e he=>by
  simp only [at_,ct] at he;exact (List.getElem?_eq_some_iff.1 he).1
 refine fX.re O f (fun j e1 he=>?_) (fun j j' e1 e2 he he2 hff=>?_)
 ·cases j with
  | inl j=>
   simp only [f,at_] at he⊢;rw [cp (by omega)];rw [←he]; congr 1; omega
  | inr j=>
   obtain ⟨g',k',r'⟩:=j;by_cases h:g'=g∧k'=k
   ·simp only [f,ac h];obtain ⟨rfl,rfl⟩:=h;have:=hr _ _ he;simp only [at_,ct] at he⊢;rw [bO this]; exact he
   ·simp only [f,ae h];simp only [at_,eH h] at he⊢;exact he
 ·cases j with
  | inl j=>cases j' with
   | inl j'=>simpa [f] using hff
   | inr j'=>
    obtain ⟨g',k',r'⟩:=j';by_cases h:g'=g∧k'=k
    ·obtain ⟨rfl,rfl⟩:=h;have:=hr _ _ he2;simp [f] at hff;omega
    ·simp [f,h] at hff
  | inr j=>
   obtain ⟨g1,k1,r1⟩:=j
   cases j' with
   | inl j'=>
    by_cases h:g1=g∧k1=k
    ·obtain ⟨rfl,rfl⟩:=h;have:=hr _ _ he;simp [f] at hff;omega
    ·simp [f,h] at hff
   | inr j'=>
    obtain ⟨g',k',r'⟩:=j';by_cases h:g1=g∧k1=k
    ·by_cases h':g'=g∧k'=k
     ·simp only [f,ac h,ac h',gM] at hff;obtain ⟨rfl,rfl⟩:=h;obtain ⟨rfl,rfl⟩:=h';rw [hff]
     ·simp [f,h,h'] at hff
    ·by_cases h':g'=g∧k'=k
     ·simp [f,h,h'] at hff
     ·simpa [f,h,h'] using hff
theorem Own.newObj {E:List En} (O:Own c G (E++F)) {g k b:Nat} (hE:G g k= []) (hne:E≠ []):∃c',(c'.w=c.w∧c'.A=c.A)∧c.le c'∧c'.t g k=some b∧Own c' (eq G g k E) F:=by
 have ht:∀g' k' b',c.t g' k'=some b'→¬(g'=g∧k'=k):=fun g' k' b' h hh=>by
  obtain ⟨rfl,rfl⟩:=hh;rw [O.t0 _ _ hE] at h;cases h
 refine ⟨⟨c.w,c.A,fun g' k'=>if g'=g∧k'=k then some b else c.t g' k'⟩,⟨rfl,rfl⟩,⟨rfl,rfl,aD _,fun _ _ _ h=>⟨rfl,h⟩,fun _ _ _=>rfl,fun _ _ _=>rfl,fun g' k' b' h=>?_⟩,by simp,⟨fX.newObj O.m hE,fun g' k' h=>?_⟩⟩
 ·simp only [ae (ht g' k' b' h)];exact h
 ·simp only [eq] at h⊢;split at h
  ·exact absurd h hne
  ·rename_i hh
   simp only [ae hh];exact O.t0 _ _ h
structure Rl {α:Type} (Y:Cx→Option Nat→List En→α→Prop) (g:Nat) (c:Cx) (G:Gm) (xs:List α):Prop where
 ob:∀k x,xs[k]? = some x→Y c (c.t g k) (G g k) x
 no:∀k,xs.length≤k→G g k= []
variable {α:Type} {Y:Cx→Option Nat→List En→α→Prop} {g:Nat} {xs:List α}
theorem Rl.mono (h:Rl Y g c G xs) (hm:∀b E x,Y c (some b) E x→Y c' (some b) E x) (hs:∀E x,¬Y c none E x) (hk:c.lw c'):Rl Y g c' G xs:=
 ⟨fun k x hx=>by
  have:=h.ob k x hx
  cases hb:c.t g k with
  | none=>rw [hb] at this; exact absurd this (hs _ _)
  | some b=>rw [hb] at this; rw [hk.t g k b hb]; exact hm b _ _ this,h.no⟩
theorem Rl.set (h:Rl Y g c G xs) {k:Nat} {E:List En} {x:α} (hk:k < xs.length) (hY:Y c (c.t g k) E x):Rl Y g c (eq G g k E) (xs.set k x):=
 ⟨fun j y hy=>by
  by_cases hj:j=k
  ·subst hj;rw [cR hk] at hy;cases hy;rw [ct]; exact hY
  ·rw [dB (Ne.symm hj)] at hy;rw [eH (fun e=>hj e.2)];exact h.ob j y hy,fun j hj=>by
  rw [mV] at hj;rw [eH (fun e=>by omega)];exact h.no j hj⟩
theorem Rl.new (h:Rl Y g c G xs) {E:List En} {x:α} (hY:Y c (c.t g xs.length) E x):Rl Y g c (eq G g xs.length E) (xs++ [x]):=
 ⟨fun j y hy=>by
  by_cases hj:j=xs.length
  ·subst hj;rw [cp (aD _)] at hy;simp at hy;subst hy;rw [ct]; exact hY
  ·have hlt:j < xs.length:=by
    have:=(List.getElem?_eq_some_iff.1 hy).1;rw [aa] at this;simp at this;omega
   rw [bO hlt] at hy;rw [eH (fun e=>hj e.2)];exact h.ob j y hy,fun j hj=>by
  rw [aa] at hj;simp at hj;rw [eH (fun e=>by omega)];exact h.no j (by omega)⟩
end
end Go.Lt
namespace Go.Lt
def bG (c:Cx) (X:Cx→Value→Prop):Ending→World→Prop:=fun x w=>∃v c',x= .returned v∧w=c'.w∧c.le c'∧X c' v
def Kp (G:Gm) (N:List En) (c:Cx):Prop:=∀i e,at_ G N i=some e→e.on c
theorem Kp.nil {c:Cx} {G:Gm} {F:List En} (O:Own c G F):Kp G [] c:=fun i e h=>by
 cases i with
 | inl i=>simp [at_] at h
 | inr i=>exact O.m.1 (.inr i) e h
def G0:Gm:=fun _ _=>[]
theorem Kp.nil0 {c:Cx}:Kp G0 [] c:=fun i e h=>by
 cases i <;> simp [at_,G0] at h
theorem Kp.cons {c:Cx} {G:Gm} {N:List En} {e:En} (h:e.on c) (k:Kp G N c):Kp G (e :: N) c:=fun i e' h'=>by
 cases i with
 | inl i=>cases i with
  | zero=>cases h'; exact h
  | succ i=>exact k (.inl i) e' h'
 | inr i=>exact k (.inr i) e' h'
theorem Kp.on {c:Cx} {G:Gm} {N:List En} (h:Kp G N c) (k:Nat) {e:En} (hk:N[k]? = some e):e.on c:=h (.inl k) e hk
theorem Kp.gon {c:Cx} {G:Gm} {N:List En} (h:Kp G N c) {g k:Nat} {E:List En} (hE:G g k=E) (r:Nat) {e:En} (hr:E[r]? = some e):e.on c:=h (.inr (g,k,r)) e (by subst hE; exact hr)
def px (ops:Array Oper) (li:List Bool) (i:Nat) (B:List Nat):List Nat:=
 (List.range ops.size).filter fun j=> !li.getD j true && !(j==i) && (ops[j]?).any fun o=>o.after.any fun x=>Region.binds .any x && ((x.on==i && !li.getD i true) || B.contains x.on)
def mX (ops:Array Oper) (li:List Bool) (i:Nat):Nat→List Nat
 | 0=>[]
 | n+1=>px ops li i (mX ops li i n)
def okB (ops:Array Oper) (li:List Bool) (i:Nat) (D:List Nat):Bool:=
 let B:=mX ops li i ops.size
 B.all (fun j=> !li.getD j true && !(j==i) && (ops[j]?).any fun o=>o.after.any fun x=>Region.binds .any x && (x.on==i || B.contains x.on)) && D.all fun j=>li.getD j true || B.contains j
section
variable {P:Program} {ops:Array Oper} {n:Fr} {r:Option Nat} {Q:Exit→(Nat→Value)→World→Prop} {D:List Nat} {K:Cx→Prop}
def gw (r:Option Nat) (D:List Nat) (K:Cx→Prop) (P:Program) (ops:Array Oper) (Q:Exit→Act→World→Prop):Nat→Array Bool→Act→Cx→Prop
 | 0,listed,a,c=>Region.ready .any ops listed= []∧Q .normal a c.w
 | fuel+1,listed,a,c=>(Region.ready .any ops listed= []→Q .normal a c.w)∧
  ∀i∈Region.ready .any ops listed,wpOpIn (fen r) 0 P ops Q i (fun a' w=>∃c',w=c'.w∧c.le c'∧(i∈D∨(K c→K c'))∧gw r D K P ops Q fuel (listed.setIfInBounds i true) a' c') a c.w
theorem gw.sound {Q:Exit→Act→World→Prop}:∀(fuel:Nat) (listed:Array Bool) (a:Act) (c:Cx),gw r D K P ops Q fuel listed a c→wpAnyIn (fen r) 0 P .any ops Q fuel listed a c.w
 | 0,_,_,_,h=>h
 | _+1,_,_,_,h=>⟨h.1,fun i hi=>wpOpIn_mono (fun a w ⟨c',hw,_,_,h'⟩=>by subst hw; exact gw.sound _ _ _ _ h') (h.2 i hi)⟩
def Yl (Z:Cx→Prop) (P:Program) (ops:Array Oper) (o:Oper) (v:Value) (a:Act) (c:Cx):Prop:=
 (Region.wanted o (yielded ops a.tmps)=true∧∀c',c.le c'→Z c'→(execOp a.eval o).run P c'.w= .ok (.value v) c'.w)∨
 (Region.wanted o (yielded ops a.tmps)=false∧v=undef)
theorem my (o:Oper) (hs:∀cs b,o.op≠ .select cs b) (a:Act) (dst:Option Tmp) (v:Value) (h:∀d,dst=some d→d∉o.looksAt ops):
  o.semAt r (a.put dst v).eval=o.semAt r a.eval:=by
 by_cases hd:∀c,o.op≠ .defer c
 ·rw [oM _ _ _ hd,oM _ _ _ hd];exact qk o hs a dst v h
 ·obtain ⟨c,hc⟩:=Classical.not_forall.1 hd;have hc:=Classical.not_not.1 hc;have he:resolve (a.put dst v).eval c o.type=resolve a.eval c o.type:=resolve_congr c o.type fun x hx=>Act.eval_put fun d hd hxd=>h d hd (by
   subst hxd;exact br _ (List.mem_filterMap.2 ⟨.tmp d,by rw [hc]; simpa [Op.operands] using hx,rfl⟩))
  cases r with
  | none=>exact qk o hs a dst v h
  | some l=>
   unfold Oper.semAt;rw [hc];simp only [he]
theorem Yl.wpOp {Z:Cx→Prop} {i:Nat} {o:Oper} {v:Value} {a:Act} {c:Cx} (hz:Z c) (hi:ops[i]? = some o) (hy:Yl Z P ops o v a c) {Q:Exit→Act→World→Prop} {K:Act→World→Prop}
  (h:K (a.put o.dst v) c.w):wpOpIn (fen r) 0 P ops Q i K a c.w:=by
 unfold Go.wpOpIn;simp only [hi];rcases hy with ⟨hw,hv⟩ | ⟨hw,rfl⟩
 ·rw [ac hw];refine ⟨fun _ _=>trivial,?_⟩;rw [gP (hv c (Cx.le.refl c) hz) (by simp),qx];exact h
 ·rw [ae (by rw [hw]; simp)];exact ⟨fun _ _=>trivial,h⟩
def Wt (ops:Array Oper) (listed:Array Bool) (i:Nat) (B:List Nat):Prop:=
 ∀j∈B,listed.getD j true=false∧j≠i∧∃oj,ops[j]? = some oj∧∃x∈oj.after,Region.binds .any x=true∧(x.on=i∨x.on∈B)
theorem kk (l:List Bool) (j:Nat):l.toArray.getD j true=l.getD j true:=by simp [bC,nZ]
theorem nj {l:List Oper} {li:List Bool} {i:Nat} {D:List Nat} (h:okB l.toArray li i D=true):∃B,Wt l.toArray li.toArray i B∧∀j∈D,li.toArray.getD j true=true∨j∈B:=by
 refine ⟨mX l.toArray li i l.toArray.size,fun j hj=>?_,fun j hj=>?_⟩
 ·simp only [okB,ai,ij] at h;have:=h.1 j hj;simp only [dD,cq,ne_eq] at this;obtain ⟨⟨h1,h2⟩,h3⟩:=this;refine ⟨by rw [kk]; exact h1,h2,?_⟩
  cases ho:l.toArray[j]? with
  | none=>rw [ho] at h3; cases h3
  | some oj=>
   rw [ho] at h3;simp only [Option.any_some,Array.any_eq_true',ai,aw,ah,pv] at h3;obtain ⟨x,hx,hb,hon⟩:=h3;exact ⟨oj,rfl,x,hx,hb,hon⟩
 ·simp only [okB,ai,ij] at h;have:=h.2 j hj;simp only [aw,pv] at this;rw [kk];exact this
theorem gw.first {Q:Exit→Act→World→Prop} (hP:∀ch a w,¬Q (.panic ch) a w) (hO:∀a w,¬Q .outgrown a w) {i:Nat} {oi:Oper} {v:Value} (hi:ops[i]? = some oi)
  (hsel:∀(j:Nat) (o:Oper) cs b,ops[j]? = some o→o.op≠ .select cs b) {Z:Cx→Prop} {B:List Nat} (hZ:(∀c,Z c)∨Z=K):
  ∀(fuel:Nat) (listed:Array Bool) (a:Act) (c:Cx),
   (∀j oj,ops[j]? = some oj→j≠i→listed.getD j true=false→(∀x∈oj.after,Region.binds .any x=true→x.on≠i)→oi.apart ops oj=true)→
   Wt ops listed i B→((∀c,Z c)∨∀j∈D,listed.getD j true=true∨j∈B)→Z c→
   i∈Region.ready .any ops listed→Yl Z P ops oi v a c→
   gw r D K P ops Q fuel (listed.setIfInBounds i true) (a.put oi.dst v) c→gw r D K P ops Q (fuel+1) listed a c:=by
 have notB:∀(listed:Array Bool) j,Wt ops listed i B→i∈Region.ready .any ops listed→j∈Region.ready .any ops listed→j∉B:=fun listed j hW hr hj hB=>by
  obtain ⟨_,_,oj,hoj,x,hx,hb,hon⟩:=hW j hB;obtain ⟨_,oj',hoj',hall⟩:=mem_ready.1 hj;rw [hoj] at hoj';cases hoj';have h1:=hall x hx hb;have h0:listed.getD x.on true=false:=by
   rcases hon with h | h
   ·rw [h]; exact (mem_ready.1 hr).1
   ·exact (hW _ h).1
  rcases bf x.on listed.size with h' | h'
  ·simp [h'] at h0 h1; rw [h0] at h1; cases h1
  ·simp [aQ h'] at h1
 intro fuel
 induction fuel with
 | zero=>
  intro listed a c _ hW hD hz hr hy H;refine ⟨fun h=>(by rw [h] at hr; cases hr),fun j hj=>?_⟩;by_cases hji:j=i
  ·subst hji; exact hy.wpOp hz hi ⟨c,rfl,Cx.le.refl c,.inr id,H⟩
  ·have:=qi hj hji;rw [H.1] at this;cases this
 | succ fuel ih=>
  intro listed a c hfree hW hD hz hr hy H;refine ⟨fun h=>(by rw [h] at hr; cases hr),fun j hj=>?_⟩;by_cases hji:j=i
  ·subst hji; exact hy.wpOp hz hi ⟨c,rfl,Cx.le.refl c,.inr id,H⟩
  ·have h1:=H.2 j (qi hj hji);obtain ⟨hjun,oj,hoj,hall⟩:=mem_ready.1 hj;have hnot:∀x∈oj.after,Region.binds .any x=true→x.on≠i:=fun x hx hb heq=>by
    have h1:=hall x hx hb;have h0:=(mem_ready.1 hr).1;rw [heq] at h1;rcases bf i listed.size with h' | h'
    ·simp [h'] at h0 h1; rw [h0] at h1; cases h1
    ·simp [aQ h'] at h1
   obtain ⟨ha1,ha2,ha3⟩:=Oper.apart_spec (hfree j oj hoj hji hjun hnot);have hfree':∀k ok,ops[k]? = some ok→k≠i→(listed.setIfInBounds j true).getD k true=false→
     (∀x∈ok.after,Region.binds .any x=true→x.on≠i)→oi.apart ops ok=true:=fun k ok hk hki hun hno=>by
    refine hfree k ok hk hki ?_ hno;by_cases hjk:j=k
    ·subst hjk; exact hjun
    ·rw [pH true hjk] at hun; exact hun
   have hW':Wt ops (listed.setIfInBounds j true) i B:=fun k hk=>by
    obtain ⟨h1,h2⟩:=hW k hk;refine ⟨?_,h2⟩;have hjk:j≠k:=fun e=>by subst e; exact notB listed j hW hr hj hk
    rw [pH true hjk];exact h1
   have hD':(∀c,Z c)∨∀k∈D,(listed.setIfInBounds j true).getD k true=true∨k∈B:=hD.imp id fun h k hk=>by
    rcases h k hk with h | h
    ·by_cases hjk:j=k
     ·subst hjk; rw [hjun] at h; cases h
     ·exact .inl (by rw [pH true hjk]; exact h)
    ·exact .inr h
   have keep:∀(b:Act),b.tmps=a.tmps→∀(u:Value) (c':Cx),c.le c'→Yl Z P ops oi v (b.put oj.dst u) c':=fun b hb u c' hc=>by
    have hbe:b.eval=a.eval:=by funext x; cases x <;> simp [Act.eval,hb]
    have he:execOp (b.put oj.dst u).eval oi=execOp a.eval oi:=hbe▸ qk oi (fun cs b=>hsel i oi cs b hi) _ _ _ ha3;have hw:Region.wanted oi (yielded ops (b.put oj.dst u).tmps)=Region.wanted oi (yielded ops a.tmps):=hb▸ wanted_put oi _ _ _ ha3;unfold Yl at hy⊢;rw [he,hw];exact hy.imp (fun ⟨h1,h2⟩=>⟨h1,fun c'' h hz=>h2 c'' (hc.trans h) hz⟩) id
   have fin:∀(b:Act),b.tmps=a.tmps→∀(u:Value) (w:World),(∃c',w=c'.w∧c.le c'∧(j∈D∨(K c→K c'))∧gw r D K P ops Q fuel ((listed.setIfInBounds i true).setIfInBounds j true) ((b.put oi.dst v).put oj.dst u) c')→
     ∃c',w=c'.w∧c.le c'∧(j∈D∨(K c→K c'))∧gw r D K P ops Q (fuel+1) (listed.setIfInBounds j true) (b.put oj.dst u) c':=by
    rintro b hb u w ⟨c',rfl,hle,hk,h⟩;have hz':Z c':=by
     rcases hZ with h | h
     ·exact h c'
     ·rcases hD with h2 | h2
      ·exact h2 c'
      ·rcases hk with h3 | h3
       ·rcases h2 j h3 with h4 | h4
        ·rw [hjun] at h4; cases h4
        ·exact absurd h4 (notB listed j hW hr hj)
       ·subst h; exact h3 hz
    refine ⟨c',rfl,hle,hk,ih _ _ _ hfree' hW' hD' hz' (qi hr (Ne.symm hji)) (keep b hb u c' hle) ?_⟩;rw [Array.setIfInBounds_comm _ _ hji,←Act.put_comm b v u ha2];exact h
   have he:oj.semAt r (a.put oi.dst v).eval=oj.semAt r a.eval:=my oj (fun cs b=>hsel j oj cs b hoj) _ _ _ ha1;have hw:Region.wanted oj (yielded ops (a.put oi.dst v).tmps)=Region.wanted oj (yielded ops a.tmps):=wanted_put oj _ _ _ ha1;unfold Go.wpOpIn at h1⊢;simp only [hoj] at h1⊢;rw [hw] at h1;split
   ·rename_i hww
    rw [ac hww] at h1;refine ⟨fun _ _=>trivial,?_⟩;have h1:=h1.2;have hro:(fen r).round=r:=rfl;rw [hro,he] at h1;rw [hro];generalize (oj.semAt r a.eval).run P c.w=res at h1⊢
    cases res with
    | ok x w'=>
     cases x <;> simp only [Oper.uponIn] at h1⊢
     case value u=>exact fin a rfl _ _ h1
     case skip=>exact fin a rfl _ _ h1
     case defer d=>rw [Act.put_defers] at h1; exact fin { a with defers:=_ :: a.defers} rfl _ _ h1
     case enter f args=>
      refine ⟨h1.1,h1.2.mono fun x w'' hx=>?_⟩
      cases x with
      | returned u=>exact fin a rfl _ _ hx
      | panicked ch=>exact absurd hx (hP _ _ _)
      | outgrown=>obtain ⟨a1,w1,h3⟩:=hx; exact absurd h3 (hO _ _)
     case row row args=>exact ⟨h1.1,h1.2.mono fun u w'' hv=>fin a rfl _ _ hv⟩
     case round l f tmps assign body=>
      refine ⟨h1.1,h1.2.mono fun x w'' hx=>?_⟩
      cases x with
      | returned u=>exact fin a rfl _ _ hx
      | panicked ch=>exact absurd hx (hP _ _ _)
      | outgrown=>obtain ⟨a1,w1,h3⟩:=hx; exact absurd h3 (hO _ _)
    | halt x w'=>
     cases x <;> simp only [Oper.uponIn] at h1⊢
     case panic u=>exact absurd h1 (hP _ _ _)
   ·rename_i hww
    rw [ae hww] at h1;exact ⟨fun _ _=>trivial,fin a rfl _ _ h1.2⟩
def AC (D:List Nat) (K:Cx→Prop) (P:Program) (l:List Oper) (n:Fr) (Q:Exit→(Nat→Value)→World→Prop) (fuel:Nat) (li:List Bool) (e:Nat→Value) (c:Cx):Prop:=
 gw n.ro D K P l.toArray (kX n Q) fuel li.toArray (act n e) c
theorem Cx.drew_le (c:Cx):c.but (fun _=>False) ⟨c.w.drew,c.A,c.t⟩:=⟨⟨rfl,rfl,aD _,fun _ _ _ h=>⟨rfl,h⟩,fun _ _ _=>rfl,fun _ _ _=>rfl,fun _ _ _ h=>h⟩,rfl,fun _ _ _=>⟨rfl,fun _=>lv⟩⟩
theorem W.regionD (D:List Nat) (K:Cx→Prop) {id:Nat} {l:List Oper} {e:Nat→Value} {c:Cx} {G:Gm} {F:List En} (O:Own c G F) (hm:P.follows .mixedOrders=true)
  (h:∀c',c.le c'→Own c' G F→AC D K P l n Q l.length (List.replicate l.length false) e c'):W P n (.region id l.toArray true) Q e c.w:=
 wpIn_region_any hm (by
  have:=gw.sound _ _ _ _ (h _ (Cx.drew_le c).le (O.keep (Cx.drew_le c)));rw [show (List.replicate l.length false).toArray=Array.replicate l.toArray.size false by simp] at this;exact this)
variable {l:List Oper} {fuel:Nat} {li:List Bool} {e:Nat→Value} {c:Cx} {o:Oper}
theorem AC.take0 {Z:Cx→Prop} {B:List Nat} (hZ:(∀c,Z c)∨Z=K) {i:Nat} {v:Value} (hi:l.toArray[i]? = some o) (hs:Region.noSelect l.toArray=true) (hf:Region.free .any l.toArray li.toArray i=true)
  (hr:(Region.ready .any l.toArray li.toArray).contains i=true) (hB:Wt l.toArray li.toArray i B) (hD:(∀c,Z c)∨∀j∈D,li.toArray.getD j true=true∨j∈B) (hz:Z c) (hy:Yl Z P l.toArray o v (act n e) c)
  (h:AC D K P l n Q fuel (li.set i true) (upO e o.dst v) c):AC D K P l n Q (fuel+1) li e c:=by
 refine gw.first (fun ch a w h=>h.1) (fun a w h=>h.1) hi (Region.noSelect_spec hs) hZ fuel _ _ c (Region.free_spec hi hf) hB hD hz (by simpa using hr) hy ?_;rw [ic];simpa [AC] using h
def tk (l:List Oper) (n:Nat) (li:List Bool) (i:Nat):Bool:=
 Region.noSelect l.toArray && Region.free .any l.toArray li.toArray i && (Region.ready .any l.toArray li.toArray).contains i && cj n l
theorem AC.take (i:Nat) (v:Value) (hi:l.toArray[i]? = some o) (ht:tk l n li i=true) (hw:cS l.toArray n e o=true)
  (hy:∀c',c.le c'→(execOp (ev n e) o).run P c'.w= .ok (.value v) c'.w) (h:AC D K P l n Q fuel (li.set i true) (upO e o.dst v) c):AC D K P l n Q (fuel+1) li e c:=by
 simp only [tk,ai] at ht;exact AC.take0 (Z:=fun _=>True) (B:=[]) (.inl fun _=>trivial) hi ht.1.1.1 ht.1.1.2 ht.1.2 (fun j hj=>by simp at hj) (.inl fun _=>trivial) trivial (.inl ⟨by rw [fF _ _ _ _ (dS ht.2)]; exact hw,by rw [fq]; exact fun c' hc _=>hy c' hc⟩) h
theorem AC.takeb (i:Nat) {t b:Bool} (htb:t=b) (hi:l.toArray[i]? = some o) (ht:tk l n li i=true) (hw:cS l.toArray n e o=true)
  (hy:∀c',c.le c'→(execOp (ev n e) o).run P c'.w= .ok (.value (.bool t)) c'.w) (h:AC D K P l n Q fuel (li.set i true) (upO e o.dst (.bool b)) c):AC D K P l n Q (fuel+1) li e c:=by
 subst htb;exact AC.take i _ hi ht hw hy h
theorem AC.takeK (i:Nat) (v:Value) (hk:K c) (hi:l.toArray[i]? = some o) (ht:tk l n li i=true) (hB:okB l.toArray li i D=true) (hw:cS l.toArray n e o=true)
  (hy:∀c',c.le c'→K c'→(execOp (ev n e) o).run P c'.w= .ok (.value v) c'.w) (h:AC D K P l n Q fuel (li.set i true) (upO e o.dst v) c):AC D K P l n Q (fuel+1) li e c:=by
 simp only [tk,ai] at ht;obtain ⟨B,h1,h2⟩:=nj hB;exact AC.take0 (Z:=K) (B:=B) (.inr rfl) hi ht.1.1.1 ht.1.1.2 ht.1.2 h1 (.inr h2) hk (.inl ⟨by rw [fF _ _ _ _ (dS ht.2)]; exact hw,by rw [fq]; exact hy⟩) h
theorem AC.pass (i:Nat) (hi:l.toArray[i]? = some o) (ht:tk l n li i=true) (hw:cS l.toArray n e o=false)
  (h:AC D K P l n Q fuel (li.set i true) (upO e o.dst undef) c):AC D K P l n Q (fuel+1) li e c:=by
 simp only [tk,ai] at ht;exact AC.take0 (Z:=fun _=>True) (B:=[]) (.inl fun _=>trivial) hi ht.1.1.1 ht.1.1.2 ht.1.2 (fun j hj=>by simp at hj) (.inl fun _=>trivial) trivial (.inr ⟨by rw [fF _ _ _ _ (dS ht.2)]; exact hw,rfl⟩) h
def Go1 (D:List Nat) (K:Cx→Prop) (P:Program) (l:List Oper) (n:Fr) (Q:Exit→(Nat→Value)→World→Prop) (fuel:Nat) (li:List Bool) (e:Nat→Value) (c:Cx) (i:Nat):Prop:=
 wpOpIn (fen n.ro) 0 P l.toArray (kX n Q) i (fun a' w=>∃c',w=c'.w∧c.le c'∧(i∈D∨(K c→K c'))∧gw n.ro D K P l.toArray (kX n Q) fuel (li.toArray.setIfInBounds i true) a' c') (act n e) c.w
def oK (p:Nat→Prop):List Nat→Prop
 | []=>True
 | i :: l=>p i∧oK p l
theorem oK.mem {p:Nat→Prop}:∀{l:List Nat},oK p l→∀i∈l,p i
 | [],_,i,hi=>by cases hi
 | a :: l,h,i,hi=>by
  rcases List.mem_cons.1 hi with rfl | hi
  ·exact h.1
  ·exact h.2.mem i hi
theorem AC.many (is:List Nat) (hne:is≠ []) (hr:Region.ready .any l.toArray li.toArray=is) (h:oK (Go1 D K P l n Q fuel li e c) is):AC D K P l n Q (fuel+1) li e c:=
 ⟨fun h0=>(by rw [hr] at h0; exact absurd h0 hne),fun j hj=>h.mem j (hr▸ hj)⟩
theorem Go1.mk {i:Nat} (hi:l.toArray[i]? = some o) (hsl:cj n l=true) (hw:cS l.toArray n e o=true)
  (h:o.wpIn (fen n.ro) 0 P (act n e) c.w (fun a w=>∃e' c',a=act n e'∧w=c'.w∧c.le c'∧(i∈D∨(K c→K c'))∧AC D K P l n Q fuel (li.set i true) e' c') (kX n Q)):Go1 D K P l n Q fuel li e c i:=by
 unfold Go1 wpOpIn;simp only [hi];rw [ac (by rw [fF _ _ _ _ (dS hsl)]; exact hw)];refine Oper.wpIn_mono ?_ h;rintro a w ⟨e',c',rfl,rfl,hle,hk,h'⟩;exact ⟨c',rfl,hle,hk,by simpa [AC] using h'⟩
theorem Go1.val {i:Nat} {v:Value} {c':Cx} (hi:l.toArray[i]? = some o) (hsl:cj n l=true) (hw:cS l.toArray n e o=true)
  (hrun:(execOp (ev n e) o).run P c.w= .ok (.value v) c'.w) (hle:c.le c') (hk:D.contains i=true∨K c') (h:AC D K P l n Q fuel (li.set i true) (upO e o.dst v) c'):Go1 D K P l n Q fuel li e c i:=
 Go1.mk hi hsl hw (ni hrun ⟨_,c',rfl,rfl,hle,hk.imp (by simp) fun h _=>h,h⟩)
theorem Go1.do_ {i:Nat} {c':Cx} (hi:l.toArray[i]? = some o) (hsl:cj n l=true) (hw:cS l.toArray n e o=true)
  (hrun:(execOp (ev n e) o).run P c.w= .ok .skip c'.w) (hle:c.le c') (hk:D.contains i=true∨K c') (h:AC D K P l n Q fuel (li.set i true) (upO e o.dst undef) c'):Go1 D K P l n Q fuel li e c i:=
 Go1.mk hi hsl hw (oQ hrun ⟨_,c',rfl,rfl,hle,hk.imp (by simp) fun h _=>h,h⟩)
theorem Go1.call {i:Nat} {f:FuncId} {args:Array Value} {X:Cx→Value→Prop} (hi:l.toArray[i]? = some o) (hsl:cj n l=true) (hw:cS l.toArray n e o=true)
  (hrun:(execOp (ev n e) o).run P c.w= .ok (.enter f args) c.w) (hc:Calls P f args c.w (bG c X))
  (h:∀v c',c.le c'→X c' v→(D.contains i=true∨K c')∧AC D K P l n Q fuel (li.set i true) (upO e o.dst v) c'):Go1 D K P l n Q fuel li e c i:=
 Go1.mk hi hsl hw (lZ hrun (hc.mono fun x w=>by
  rintro ⟨v,c',rfl,rfl,hx,hX⟩;have:=h v c' hx hX;exact ⟨v,rfl,_,c',rfl,rfl,hx,this.1.imp (by simp) fun h _=>h,this.2⟩))
theorem AC.done (hr:Region.ready .any l.toArray li.toArray= []) (h:Q .normal e c.w):AC D K P l n Q fuel li e c:=by
 cases fuel with
 | zero=>exact ⟨hr,trivial,e,rfl,h⟩
 | succ k=>exact ⟨fun _=>⟨trivial,e,rfl,h⟩,by rw [hr]; simp⟩
theorem AC.gh {c':Cx} (hw:c'.w=c.w) (hA:c.le c') (hk:K c→K c') (h:AC D K P l n Q fuel li e c'):AC D K P l n Q fuel li e c:=by
 have key:∀(fuel:Nat) (listed:Array Bool) (a:Act),gw n.ro D K P l.toArray (kX n Q) fuel listed a c'→gw n.ro D K P l.toArray (kX n Q) fuel listed a c:=fun fuel listed a h=>by
  cases fuel with
  | zero=>exact ⟨h.1,by rw [←hw]; exact h.2⟩
  | succ fuel=>
   refine ⟨fun h0=>by rw [←hw]; exact h.1 h0,fun i hi=>?_⟩;have:=h.2 i hi;rw [hw] at this;exact wpOpIn_mono (fun a w ⟨c2,h1,h2,h3,h4⟩=>⟨c2,h1,hA.trans h2,h3.imp id fun h5 h6=>h5 (hk h6),h4⟩) this
 exact key _ _ _ h
theorem WL.callP {ops:Array Oper} {rest:List Oper} {f:FuncId} {args:Array Value} {X:Cx→Value→Prop} (hg:o.guard=none) (hr:(execOp (ev n e) o).run P c.w= .ok (.enter f args) c.w)
  (hc:Calls P f args c.w (bG c X)) (h:∀v c',c.le c'→X c' v→WL P ops n Q rest (upO e o.dst v) c'.w):WL P ops n Q (o :: rest) e c.w:=
 WL.call hg hr (hc.mono fun x w ⟨v,c',h1,h2,h3,h4⟩=>⟨v,h1,by subst h2; exact h v c' h3 h4⟩)
theorem WL.gh {ops:Array Oper} {rest:List Oper} {c':Cx} (hw:c'.w=c.w) (h:WL P ops n Q rest e c'.w):WL P ops n Q rest e c.w:=hw▸ h
end
end Go.Lt
namespace Go.Lt
section
variable {P:Program} {c c':Cx} {G:Gm} {F:List En} {α:Type} {R:Rp α}
theorem rv {s:Sem Value} {w w':World} {v:Value} (h:s.run P w= .ok v w'):(do pure (Next.value (←s)):Sem Next).run P w= .ok (.value v) w':=by
  simp [h,Result.andThen]
theorem rs {s:Sem Unit} {w w':World} (h:s.run P w= .ok () w'):(do s; pure Next.skip:Sem Next).run P w= .ok .skip w':=by
  simp [h,Result.andThen]
theorem rx {ρ:Operand→Value} {o:Oper} {s:Sem Value} {w w':World} {v:Value} (hx:execOp ρ o=(do pure (Next.value (←s)):Sem Next)) (h:s.run P w= .ok v w'):(execOp ρ o).run P w= .ok (.value v) w':=by
  rw [hx];exact rv h
theorem ke {v:Value} {xs:List α} {T E:TypeId} {k:IntKind} {i:Int} {x:α} (hT:P.underlying T=some (.slice E)) (hE:(P.info? E).map (·.size)=some R.size)
    (h:Sl R c v xs) (hi:idx xs i=some x) (w:World):(Instr.indexAt T v (.int k i)).run P w= .ok (.pointer (some ⟨sb v,so v+i.toNat * R.size,none⟩)) w:=by
  obtain ⟨a,cap,rfl,_,_,h4⟩:=h;unfold idx at hi;split at hi
  · rename_i h0
    have hlt:i.toNat < xs.length:=by
      rcases bf i.toNat xs.length with h | h
      · exact h
      · rw [List.getElem?_eq_none h] at hi; cases hi
    obtain ⟨b,off,l,rfl,_,_⟩:=h4 _ _ hi;obtain ⟨ti,hti,hsz⟩:=Option.map_eq_some_iff.1 hE;have hlt':i < xs.length:=by omega
    simp [Instr.indexAt,asIntOf,bR hT,h0,hlt',sizeOf,typeInfo,hti,hsz,sb,so,eF]
  · cases hi
theorem lY {v:Value} {xs:List α} {T E ty:TypeId} (hT:P.underlying T=some (.slice E)) (h:Sl R c v xs) (w:World):
    (Builtin.len_ #[T] ty #[v]).run P w= .ok (.int .i64 (xs.length:Int)) w:=by
  obtain ⟨a,cap,rfl,_⟩:=h;simp [Builtin.len_,bR hT,goInt]
theorem gp {T:TypeId} {b o:Nat} {v:Value} {d:TypeDesc} (hT:P.underlying T=some d) (hd:(match d with | .struct _ | .array _ _=>false | _=>true)=true)
    (h:Im c b o v):(Instr.loadAt T (.pointer (some ⟨b,o,none⟩))).run P c.w= .ok v c.w:=by
  cases d <;> simp_all [Instr.loadAt,Instr.sureAddr,loadVar,isAgg,bR hT,load,Sem.run,h.cell]
theorem gQ (b:Nat) {w:World}:∀(l:List Value) (o i:Nat) (acc:Array Value),(∀j u,l[j]? = some u→w.cell? ⟨b,o+i+j,none⟩=some u)→
    (loadCellsFrom ⟨b,o,none⟩ i l.length acc).run P w= .ok (acc++l.toArray) w:=by
  intro l
  induction l with
  | nil=>intro o i acc h; simp [loadCellsFrom]
  | cons v l ih=>
    intro o i acc h;have h0:=h 0 v rfl;simp only [pu] at h0;simp only [ab,loadCellsFrom,eF,load,fr,Sem.run,h0,Result.andThen];rw [ih o (i+1) (acc.push v) (fun j u hu=>by have:=h (j+1) u hu; rwa [show o+i+(j+1)=o+(i+1)+j by omega] at this)];simp
theorem go {w:World} {T:TypeId} {b o:Nat} {l:List Value} (hT:(P.underlying T).map (fun d=>match d with | .struct _ | .array _ _=>true | _=>false)=some true) (hs:(P.info? T).map (·.size)=some l.length)
    (h:∀j u,l[j]? = some u→w.cell? ⟨b,o+j,none⟩=some u):(loadVar T ⟨b,o,none⟩).run P w= .ok (.agg l.toArray) w:=by
  obtain ⟨ti,hti,hsz⟩:=Option.map_eq_some_iff.1 hs;obtain ⟨d,hd,hag⟩:=Option.map_eq_some_iff.1 hT;have h1:=gQ (P:=P) (w:=w) b l o 0 #[] (fun j u hu=>h j u hu);have h2:(isAgg T).run P w= .ok true w:=by
    cases d <;> simp_all [isAgg,bR hd]
  rw [←hsz] at h1;simp [loadVar,h2,sizeOf,typeInfo,hti,loadCells,h1,Result.andThen]
theorem iv {T:TypeId} {b o:Nat} {l:List Value} (hT:(P.underlying T).map (fun d=>match d with | .struct _ | .array _ _=>true | _=>false)=some true) (hs:(P.info? T).map (·.size)=some l.length)
    (h:∀j u,l[j]? = some u→Im c b (o+j) u):(Instr.loadAt T (.pointer (some ⟨b,o,none⟩))).run P c.w= .ok (.agg l.toArray) c.w:=by
  simp only [Instr.loadAt,Instr.sureAddr,fr,pq,Result.andThen];exact go hT hs fun j u hu=>(h j u hu).cell
theorem En.on.cell {e:En} (h:e.on c) {b:Nat} (hb:blk e.v=some b) (j:Nat):c.w.cell? ⟨b,j,none⟩=e.vs[j]? :=by
  simp [World.cell?,(h b hb).1]
theorem pE {T:TypeId} {e:En} {b j:Nat} {v:Value} {d:TypeDesc} (hT:P.underlying T=some d) (hd:(match d with | .struct _ | .array _ _=>false | _=>true)=true)
    (h:e.on c) (hb:blk e.v=some b) (hj:e.vs[j]? = some v):(Instr.loadAt T (.pointer (some ⟨b,j,none⟩))).run P c.w= .ok v c.w:=by
  have hc:c.w.cell? ⟨b,j,none⟩=some v:=by rw [h.cell hb,hj]
  cases d <;> simp_all [Instr.loadAt,Instr.sureAddr,loadVar,isAgg,bR hT,load,Sem.run]
theorem pD {T:TypeId} {e:En} {b j:Nat} {l:List Value} (hT:(P.underlying T).map (fun d=>match d with | .struct _ | .array _ _=>true | _=>false)=some true) (hs:(P.info? T).map (·.size)=some l.length)
    (h:e.on c) (hb:blk e.v=some b) (hl:(e.vs.drop j).take l.length=l):(Instr.loadAt T (.pointer (some ⟨b,j,none⟩))).run P c.w= .ok (.agg l.toArray) c.w:=by
  simp only [Instr.loadAt,Instr.sureAddr,fr,pq,Result.andThen];refine go hT hs fun i u hu=>?_;have:(e.vs.drop j)[i]? = some u:=by
    rw [←hl,cA] at hu;split at hu
    · exact hu
    · cases hu
  rw [eN] at this;rw [h.cell hb,this]
def fQ:List Value→Prop
  | []=>True
  | u :: l=>u.oneCell'=true∧fQ l
theorem fQ.mem:∀{l:List Value},fQ l→∀u∈l,u.oneCell'=true
  | [],_,u,hu=>by cases hu
  | a :: l,h,u,hu=>by
    rcases List.mem_cons.1 hu with rfl | hu
    · exact h.1
    · exact h.2.mem u hu
theorem frozen?_row {w w':World} {b:Nat} {l m:Array Value} {T:TypeId} (h:w.heap[b]? = some (.cells l T (0,0))) (h':w'.heap[b]? = some (.cells m T (0,0))) (ho:∀k,k≠b→w'.heap[k]? = w.heap[k]?) (a:Addr):w'.frozen? a=w.frozen? a:=by
  by_cases hk:a.block=b
  · simp [World.frozen?,hk,h,h']
  · simp [World.frozen?,ho _ hk]
theorem Cx.row {b:Nat} {l m:List Value} {T:TypeId} (h:c.w.heap[b]? = some (.cells l.toArray T (0,0))) (lim:Nat) (hA:∀o,c.A b o↔lim≤o) (hs:∀o,o < lim→m[o]? = l[o]?) (lim':Nat) (hl:lim≤lim'):
    ∃c':Cx,c'.w=c.w.setRow b m.toArray∧c.but (fun k=>k=b) c'∧c'.w.heap[b]? = some (.cells m.toArray T (0,0))∧∀o,c'.A b o↔lim'≤o:=by
  have hbk:=setRow_heap c.w b l.toArray m.toArray T (0,0) h;have hoth:∀k,k≠b→(c.w.setRow b m.toArray).heap[k]? = c.w.heap[k]? :=fun k hk=>setRow_other c.w b k _ hk;have hsz:(c.w.setRow b m.toArray).heap.size=c.w.heap.size:=by simp [World.setRow]
  refine ⟨⟨c.w.setRow b m.toArray,fun k o=>(k≠b∧c.A k o)∨(k=b∧lim'≤o),c.t⟩,rfl,⟨⟨rfl,rfl,by rw [hsz]; exact aD _,fun k o hk hnA=>?_,fun k hk hnA=>?_,fun a _ _=>frozen?_row h hbk hoth a,fun _ _ _ h=>h⟩,rfl,fun k hk hkb=>⟨hoth k hkb,fun o=>?_⟩⟩,hbk,fun o=>?_⟩
  · by_cases hkb:k=b
    · subst hkb
      have ho:o < lim:=by
        rcases bf o lim with h | h
        · exact h
        · exact absurd ((hA o).2 h) hnA
      refine ⟨?_,?_⟩
      · rw [cell_setRow_same c.w k o l.toArray _ T (0,0) h,jF c.w k o l.toArray T (0,0) h,bQ,bQ,hs o ho]
      · rintro (h | h)
        · exact h.1 rfl
        · omega
    · refine ⟨bJ (w:=c.w) (a:=⟨k,o,none⟩) (hoth k hkb),?_⟩
      rintro (h | h)
      · exact hnA h.2
      · exact hkb h.1
  · by_cases hkb:k=b
    · subst hkb
      exact absurd ((hA lim).2 (aD _)) (hnA lim)
    · exact hoth k hkb
  · simp [hkb]
  · simp
theorem stE {T:TypeId} {e:En} {b o:Nat} {us:List Value} {v:Value} (h:e.on c) (hb:blk e.v=some b) (hlim:e.lim=0) (hv:v.cells.toList=us) (hs:(P.info? T).map (·.size)=some us.length) (h1:fQ us)
    (hl:o+us.length≤e.vs.length):∃c',(Instr.storeAt T (.pointer (some ⟨b,o,none⟩)) v).run P c.w= .ok () c'.w∧c.but (fun k=>k=b) c'∧(⟨e.v,e.T,e.vs.take o++us++e.vs.drop (o+us.length),0⟩:En).on c':=by
  obtain ⟨ti,hti,hsz⟩:=Option.map_eq_some_iff.1 hs;have hh:=h b hb;have h2:=run_storeCells_at P b o e.T us 0 e.vs.toArray c.w hh.1 (by simpa using hl) h1.mem;have hz:v.cells.size=us.length:=by rw [←hv]; simp
  simp only [pu] at h2;obtain ⟨c',e1,e2,e3,e4⟩:=Cx.row (m:=e.vs.take o++us++e.vs.drop (o+us.length)) hh.1 e.lim hh.2 (fun o ho=>by omega) 0 (by omega);refine ⟨c',?_,e2,fun b' hb'=>?_⟩
  · rw [e1]
    simp [Instr.storeAt,Instr.sureAddr,storeVar,sizeOf,typeInfo,hti,hsz,hz,hv,h2,Result.andThen]
  · simp only at hb'
    rw [hb] at hb';cases hb';exact ⟨e3,e4⟩
variable {ρ:Operand→Value} {o:Oper}
theorem Own.st {T:TypeId} {e:En} {b j:Nat} {us nw:List Value} {v:Value} (k:Nat) (O:Own c G F) (hx:execOp ρ o=(do Instr.storeAt T (.pointer (some ⟨b,j,none⟩)) v; pure Next.skip:Sem Next)) (hk:F[k]? = some e) (hb:blk e.v=some b) (hlim:e.lim=0)
    (hv:v.cells.toList=us) (hs:(P.info? T).map (·.size)=some us.length) (h1:fQ us) (hl:Nat.ble (j+us.length) e.vs.length=true) (hn:e.vs.take j++us++e.vs.drop (j+us.length)=nw):
    ∃c',(execOp ρ o).run P c.w= .ok .skip c'.w∧c.le c'∧Own c' G (F.set k ⟨e.v,e.T,nw,0⟩):=by
  subst hn;obtain ⟨c',h1,h2,h3⟩:=stE (O.on k hk) hb hlim hv hs h1 (bB hl);exact ⟨c',by rw [hx]; exact rs h1,h2.le,O.set k hk h2 (fun b' hb'=>by rw [hb,hb']) h3 (fun b h=> .inl h)⟩
theorem Own.stG {T:TypeId} {e:En} {b j:Nat} {us nw:List Value} {v:Value} {g k:Nat} {E:List En} (r:Nat) (O:Own c G F) (hx:execOp ρ o=(do Instr.storeAt T (.pointer (some ⟨b,j,none⟩)) v; pure Next.skip:Sem Next)) (hE:G g k=E) (hr:E[r]? = some e) (hb:blk e.v=some b) (hlim:e.lim=0)
    (hv:v.cells.toList=us) (hs:(P.info? T).map (·.size)=some us.length) (h1:fQ us) (hl:Nat.ble (j+us.length) e.vs.length=true) (hn:e.vs.take j++us++e.vs.drop (j+us.length)=nw):
    ∃c',(execOp ρ o).run P c.w= .ok .skip c'.w∧c.le c'∧Own c' (eq G g k (E.set r ⟨e.v,e.T,nw,0⟩)) F:=by
  subst hn;obtain ⟨c',h1,h2,h3⟩:=stE (O.gon hE r hr) hb hlim hv hs h1 (bB hl);exact ⟨c',by rw [hx]; exact rs h1,h2.le,O.setR r hE hr h2 (fun b' hb'=>by rw [hb,hb']) h3 (fun b h=> .inl h)⟩
theorem Cx.new (c:Cx) (vs:List Value) (T:TypeId) (lim:Nat):∃c':Cx,c'.w=c.w.alloc (.cells vs.toArray T)∧c.but (fun _=>False) c'∧c'.w.heap[c.w.heap.size]? = some (.cells vs.toArray T (0,0))∧c.w.heap.size < c'.w.heap.size∧∀o,c'.A c.w.heap.size o↔lim≤o:=
  ⟨⟨c.w.alloc (.cells vs.toArray T),fun k p=>(k < c.w.heap.size∧c.A k p)∨(k=c.w.heap.size∧lim≤p),c.t⟩,rfl,
   ⟨⟨rfl,rfl,by simp,fun k p hk hA=>⟨bJ (w:=c.w) (a:=⟨k,p,none⟩) (bF _ _ _ hk),by rintro (h | h); exact hA h.2; omega⟩,fun k hk _=>bF _ _ _ hk,fun a _ _=>nY _ _ _ _,fun _ _ _ h=>h⟩,rfl,
    fun k hk _=>⟨bF _ _ _ hk,fun p=>⟨by rintro (h | h); exact h.2; omega,fun h=> .inl ⟨hk,h⟩⟩⟩⟩,ge c.w _,by simp,fun o=>by simp⟩
theorem Own.al {T:TypeId} {vs:List Value} (O:Own c G F) (hr:(execOp ρ o).run P c.w= .ok (.value (.pointer (some ⟨c.w.heap.size,0,none⟩))) (c.w.alloc (.cells vs.toArray T))):
    ∃v c',(execOp ρ o).run P c.w= .ok (.value v) c'.w∧c.le c'∧∃b,v= .pointer (some ⟨b,0,none⟩)∧Own c' G (⟨.pointer (some ⟨b,0,none⟩),T,vs,0⟩ :: F):=by
  obtain ⟨c',h1,h2,h3,_,h4⟩:=Cx.new c vs T 0;refine ⟨_,c',by rw [h1]; exact hr,h2.le,_,rfl,O.cons h2 (fun _=>id) (fun b hb=>?_) (fun b hb=>?_)⟩
  · simp only [blk,az] at hb; subst hb; exact ⟨h3,h4⟩
  · simp only [blk,az] at hb; omega
theorem Own.bx {T:TypeId} {vs:List Value} (O:Own c G F) (hr:(execOp ρ o).run P c.w= .ok (.value (.pointer (some ⟨c.w.heap.size,0,none⟩))) (c.w.alloc (.cells vs.toArray T))):
    ∃v c',(execOp ρ o).run P c.w= .ok (.value v) c'.w∧c.le c'∧∃b,v= .pointer (some ⟨b,0,none⟩)∧Own c' G F∧∀j u,vs[j]? = some u→Im c' b (0+j) u:=by
  obtain ⟨c',h1,h2,h3,h5,h4⟩:=Cx.new c vs T vs.length;refine ⟨_,c',by rw [h1]; exact hr,h2.le,_,rfl,O.keep h2,fun j u hu=>⟨h5,fun hA=>?_,?_⟩⟩
  · have h6:=(h4 _).1 hA
    have:=(List.getElem?_eq_some_iff.1 hu).1;omega
  · rw [jF _ _ _ _ _ _ h3,bQ,dz,hu]
def AR (R:Rp α) (c:Cx) (vs:List Value) (xs:List α):Prop:=∀i x,xs[i]? = some x→R.cells c ((vs.drop (i * R.size)).take R.size) x
def OA (R:Rp α) (c:Cx) (v:Value) (vs:List Value) (xs:List α):Prop:=
  0 < R.size∧((v= .slice none 0 0∧xs= [])∨∃g cap,v= .slice (some ⟨g,0,none⟩) xs.length cap∧xs.length≤cap∧cap≤maxLen∧cap * R.size≤vs.length)∧AR R c vs xs
def es (m:Bool) (R:Rp α) (v:Value) (E:TypeId) (vs:List Value) (xs:List α):En:=⟨v,E,vs,cond m 0 (xs.length * R.size)⟩
theorem AR.lw {vs:List Value} {xs:List α} (h:AR R c vs xs) (k:c.lw c'):AR R c' vs xs:=fun i x hx=>R.mono k (h i x hx)
theorem AR.mono {vs:List Value} {xs:List α} (h:AR R c vs xs) (k:c.le c'):AR R c' vs xs:=h.lw k.lw
theorem OA.lw {v:Value} {vs:List Value} {xs:List α} (h:OA R c v vs xs) (k:c.lw c'):OA R c' v vs xs:=⟨h.1,h.2.1,h.2.2.lw k⟩
theorem OA.mono {v:Value} {vs:List Value} {xs:List α} (h:OA R c v vs xs) (k:c.le c'):OA R c' v vs xs:=h.lw k.lw
theorem OA.nil (h0:0 < R.size):OA R c (.slice none 0 0) [] []:=⟨h0,.inl ⟨rfl,rfl⟩,fun i x h=>by simp at h⟩
theorem OA.one {v:Value} {vs:List Value} {xs:List α} (h:OA R c v vs xs):v.oneCell'=true:=by
  rcases h.2.1 with ⟨rfl,_⟩ | ⟨g,cap,rfl,_⟩ <;> rfl
theorem nc {v:Value} {vs:List Value} {xs:List α} {T E ty:TypeId} (hT:P.underlying T=some (.slice E)) (h:OA R c v vs xs) (w:World):
    (Builtin.len_ #[T] ty #[v]).run P w= .ok (.int .i64 (xs.length:Int)) w:=by
  rcases h.2.1 with ⟨rfl,rfl⟩ | ⟨g,cap,rfl,_⟩ <;> simp [Builtin.len_,bR hT,goInt]
theorem fg {β:Type} {a b:List β} {i s:Nat} (h:i+s≤a.length):((a++b).drop i).take s=(a.drop i).take s:=by
  rw [mv (by omega),mu (by rw [cU]; omega)]
theorem gT {i k s:Nat} (h:i < k):i * s+s≤k * s:=by
  have:=fH s (show i+1≤k by omega);rw [dA,gG] at this;exact this
theorem AR.len {vs:List Value} {xs:List α} (h:AR R c vs xs) (hp:0 < R.size):xs.length * R.size≤vs.length:=by
  rcases eM xs.length with h0 | h0
  · rw [h0,pr]; exact eC _
  · have hx:xs[xs.length - 1]? = some xs[xs.length - 1]:=ak (by omega)
    have:=R.len (h _ _ hx);rw [aI,cU] at this;have e:xs.length * R.size=(xs.length - 1) * R.size+R.size:=by
      conv=>lhs; rw [show xs.length=xs.length - 1+1 by omega,dA,gG]
    omega
theorem OA.sl {v:Value} {E:TypeId} {vs:List Value} {xs:List α} (h:OA R c v vs xs) (hon:(es false R v E vs xs).on c):Sl R c v xs:=by
  obtain ⟨hp,h1,h2⟩:=h;rcases h1 with ⟨rfl,rfl⟩ | ⟨g,cap,rfl,hc,hm,hcs⟩
  · exact Sl.nl R c
  · obtain ⟨h3,h4⟩:=hon g rfl
    refine ⟨_,cap,rfl,hc,hm,fun i x hx=>⟨g,0,_,rfl,h2 i x hx,fun j u hu=>?_⟩⟩;have hj:j < R.size∧vs[i * R.size+j]? = some u:=by
      rw [cA] at hu;split at hu
      · rename_i hj
        exact ⟨hj,by rwa [eN] at hu⟩
      · cases hu
    have hi:=gT (s:=R.size) (List.getElem?_eq_some_iff.1 hx).1;refine ⟨(Array.getElem?_eq_some_iff.1 h3).1,fun hA=>?_,?_⟩
    · have:=(h4 _).1 hA
      simp only [es,qn] at this;omega
    · rw [jF _ _ _ _ _ _ h3,bQ,dz]
      exact hj.2
theorem Own.frz {v:Value} {E:TypeId} {vs:List Value} {xs:List α} (k:Nat) (O:Own c G F) (hk:F[k]? = some (es true R v E vs xs)) (h:OA R c v vs xs):
    ∃c',c'.w=c.w∧c.le c'∧Own c' G (F.set k (es false R v E vs xs))∧Sl R c' v xs:=by
  have hon:=O.on k hk
  let c':Cx:=⟨c.w,fun b o=>c.A b o∧¬(blk v=some b∧o < xs.length * R.size),c.t⟩
  have hle:c.le c':=⟨rfl,rfl,aD _,fun _ _ _ h=>⟨rfl,fun h2=>h h2.1⟩,fun _ _ _=>rfl,fun _ _ _=>rfl,fun _ _ _ h=>h⟩;have hb:c.but (fun b=>blk v=some b) c':=⟨hle,rfl,fun b hb hd=>⟨rfl,fun o=>⟨fun h=>h.1,fun h=>⟨h,fun h2=>hd h2.1⟩⟩⟩⟩;have hon':(es false R v E vs xs).on c':=fun b hb=>by
    obtain ⟨h1,h2⟩:=hon b hb;refine ⟨h1,fun o=>?_⟩;have hb':blk v=some b:=hb;simp only [c',hb',true_and,es,qn];rw [h2 o];simp [es]
  exact ⟨c',rfl,hle,O.set k hk hb (fun b h=>h) hon' (fun b h=> .inl h),(h.mono hle).sl hon'⟩
theorem Own.slf {v:Value} {E:TypeId} {vs:List Value} {xs:List α} (k:Nat) (O:Own c G F) (hk:F[k]? = some (es false R v E vs xs)) (h:OA R c v vs xs):Sl R c v xs:=h.sl (O.on k hk)
theorem Sl.flat {u:Value} {ys:List α} (h:Sl R c u ys):∃nw:List Value,nw.length=ys.length * R.size∧(∀j w,nw[j]? = some w→Im c (sb u) (so u+j) w)∧(∀w∈nw,w.oneCell'=true)∧
    (∀i x,ys[i]? = some x→R.cells c ((nw.drop (i * R.size)).take R.size) x):=by
  suffices ∀k,k≤ys.length→∃nw:List Value,nw.length=k * R.size∧(∀j w,nw[j]? = some w→Im c (sb u) (so u+j) w)∧(∀w∈nw,w.oneCell'=true)∧
      (∀i x,i < k→ys[i]? = some x→R.cells c ((nw.drop (i * R.size)).take R.size) x) by
    obtain ⟨nw,h1,h2,h3,h4⟩:=this ys.length (aD _);exact ⟨nw,h1,h2,h3,fun i x hx=>h4 i x (List.getElem?_eq_some_iff.1 hx).1 hx⟩
  intro k
  induction k with
  | zero=>exact fun _=>⟨[],by simp,by simp,by simp,fun i x hi=>by omega⟩
  | succ k ih=>
    intro hk;obtain ⟨nw,h1,h2,h3,h4⟩:=ih (by omega);have hx:ys[k]? = some ys[k]:=ak (by omega);obtain ⟨l,hl,hc⟩:=h.at hx;have hll:=R.len hl;refine ⟨nw++l,by rw [aa,h1,hll,dA,gG],fun j w hw=>?_,fun w hw=>?_,fun i x hi hxi=>?_⟩
    · rcases bf j nw.length with hj | hj
      · rw [bO hj] at hw
        exact h2 j w hw
      · rw [cp hj] at hw
        have:=hc _ _ hw;rw [h1] at this
        rwa [show so u+k * R.size+(j - k * R.size)=so u+j by omega] at this
    · rcases List.mem_append.1 hw with hw | hw
      · exact h3 w hw
      · exact R.one hl w hw
    · rcases bf i k with hik | hik
      · rw [fg (by rw [h1]; exact gT hik)]
        exact h4 i x hik hxi
      · obtain rfl:i=k:=by omega
        rw [hx] at hxi;cases hxi;rw [←h1,dg,iH (by omega)];exact hl
theorem iQ (z:Array Value) (n:Nat):(Builtin.zeroCells z n).size=n * z.size:=by simp [Builtin.zeroCells]
theorem lQ {E t ty:TypeId} {v:Value} {vs:List Value} {xs ys zs:List α} {z:Value} {by_:Nat} {m:Bool} {ua:Option Addr} {ucap:Nat} {nw:List Value} (k:Nat) (O:Own c G F) (hk:F[k]? = some (es m R v E vs xs)) (h:OA R c v vs xs)
    (n1:nw.length=ys.length * R.size) (n2:ys≠ []→∃ub uo,ua=some ⟨ub,uo,none⟩∧∀j w,nw[j]? = some w→c.w.cell? ⟨ub,uo+j,none⟩=some w) (n3:∀w∈nw,w.oneCell'=true) (n4:∀i x,ys[i]? = some x→R.cells c ((nw.drop (i * R.size)).take R.size) x) (happ:app xs ys=some zs)
    (hT:P.underlying t=some (.slice E)) (hi:(P.info? E).map (fun i=>(i.zero,i.size,i.bytes))=some (some z,R.size,by_)) (hz:z.cells.size=R.size) (hby:Nat.ble by_ 128=true):
    ∃v' c',(Builtin.append_ #[t,t] ty #[v,.slice ua ys.length ucap]).run P c.w= .ok v' c'.w∧c.le c'∧∃vs',Own c' G (F.set k (es m R v' E vs' zs))∧OA R c' v' vs' zs:=by
  have hby:=bB hby;have hfar:xs.length+ys.length≤far∧xs++ys=zs:=by
    unfold app at happ;split at happ
    · exact ⟨by assumption,by simpa using happ⟩
    · cases happ
  obtain ⟨hfar,rfl⟩:=hfar;unfold far at hfar;obtain ⟨ti,hti,hzz⟩:=Option.map_eq_some_iff.1 hi;simp only [kp] at hzz;obtain ⟨hz1,hz2,hz3⟩:=hzz;have hon:=O.on k hk;have hklt:=(List.getElem?_eq_some_iff.1 hk).1;have hh:=h;obtain ⟨hp,h1,h2⟩:=h;by_cases hys:ys= []
  · subst hys
    refine ⟨v,c,?_,Cx.le.refl c,vs,?_,by rw [iP]; exact hh⟩
    · rcases h1 with ⟨rfl,rfl⟩ | ⟨g,cap,rfl,hcap,_⟩
      · cases ua <;> simp [Builtin.append_,bR hT,sizeOf,typeInfo,hti,Builtin.lenOf,Builtin.firstCells,loadCells,loadCellsFrom,storeCells]
      · cases ua <;> simp [Builtin.append_,bR hT,sizeOf,typeInfo,hti,Builtin.lenOf,Builtin.firstCells,loadCells,loadCellsFrom,storeCells,hcap]
    · rw [iP]
      have:F.set k (es m R v E vs xs)=F:=by
        apply List.ext_getElem?;intro j;by_cases hj:k=j
        · subst hj; rw [cR hklt,hk]
        · rw [dB hj]
      rw [this]; exact O
  · have hpos:0 < ys.length:=by
      rcases eM ys.length with h | h
      · exact absurd (cI h) hys
      · exact h
    obtain ⟨ub,uo,hua,n5⟩:=n2 hys;subst hua;have hcells:∀j w,nw[j]? = some w→c.w.cell? ((⟨ub,uo,none⟩:Addr).add j)=some w:=fun j w hw=>by
      rw [eF];exact n5 j w hw
    have hN:(xs++ys).length=xs.length+ys.length:=aa;have hxl:=h2.len hp;have helem:∀(c':Cx) (tail:List Value),c.le c'→AR R c' (vs.take (xs.length * R.size)++nw++tail) (xs++ys):=fun c' tail hcc i x hx=>by
      have hlt:(vs.take (xs.length * R.size)).length=xs.length * R.size:=by rw [aI]; omega
      rcases bf i xs.length with hi' | hi'
      · have hm:=gT (s:=R.size) hi'
        rw [aP,fg (by rw [hlt]; exact hm)];rw [bO hi'] at hx;have:=h2 i x hx;rw [List.drop_take,List.take_take,show min R.size (xs.length * R.size - i * R.size)=R.size by omega];exact R.mono hcc this
      · rw [cp hi'] at hx
        have h4:=n4 _ _ hx;have hiy:=gT (s:=R.size) (List.getElem?_eq_some_iff.1 hx).1;have e:i * R.size=xs.length * R.size+(i - xs.length) * R.size:=by rw [←dA]; congr 1; omega
        have e2:(vs.take (xs.length * R.size)++(nw++tail)).drop (xs.length * R.size)=nw++tail:=by
          conv=>lhs; arg 1; rw [←hlt]
          exact dg
        rw [aP,e,←List.drop_drop,e2,fg (by rw [n1]; omega)];exact R.mono hcc h4
    have hbytes:(xs.length+ys.length) * ti.bytes≤140737488355328:=by
      rw [hz3];exact cD (Nat.mul_le_mul hfar hby) (by decide)
    have fresh:∀old,old < xs.length+ys.length→
        ∃v' c',Result.ok (α:=Value) (.slice (some ⟨c.w.heap.size,0,none⟩) (xs.length+ys.length) (grownCap c.w (xs.length+ys.length) old E)) (c.w.drew.alloc (.cells ((vs.take (xs.length * R.size)).toArray++nw.toArray++Builtin.zeroCells z.cells (grownCap c.w (xs.length+ys.length) old E - (xs.length+ys.length))) E))= .ok v' c'.w∧c.le c'∧
        ∃vs',Own c' G (F.set k (es m R v' E vs' (xs++ys)))∧OA R c' v' vs' (xs++ys):=by
      intro old ho;have hge:=grownCap_ge c.w (xs.length+ys.length) old E;have hcm:grownCap c.w (xs.length+ys.length) old E≤maxLen:=grownCap_le_maxLen c.w _ old E (by unfold maxLen; omega);have hd:=Cx.drew_le c;obtain ⟨c',e1,e2,e3,e4,e5⟩:=Cx.new ⟨c.w.drew,c.A,c.t⟩ ((vs.take (xs.length * R.size))++nw++(Builtin.zeroCells z.cells (grownCap c.w (xs.length+ys.length) old E - (xs.length+ys.length))).toList) E (cond m 0 ((xs++ys).length * R.size));have ea:((vs.take (xs.length * R.size))++nw++(Builtin.zeroCells z.cells (grownCap c.w (xs.length+ys.length) old E - (xs.length+ys.length))).toList).toArray=(vs.take (xs.length * R.size)).toArray++nw.toArray++Builtin.zeroCells z.cells (grownCap c.w (xs.length+ys.length) old E - (xs.length+ys.length)):=by
        apply Array.ext'; simp
      refine ⟨.slice (some ⟨c.w.heap.size,0,none⟩) (xs.length+ys.length) (grownCap c.w (xs.length+ys.length) old E),c',by rw [e1,ea],hd.le.trans e2.le,(vs.take (xs.length * R.size))++nw++(Builtin.zeroCells z.cells (grownCap c.w (xs.length+ys.length) old E - (xs.length+ys.length))).toList,Own.set (O.keep hd) k hk e2 (fun b (h:False)=>h.elim) (fun b hb=>?_) (fun b hb=>?_),hp,.inr ⟨c.w.heap.size,_,by rw [hN],by rw [hN]; exact hge,hcm,?_⟩,?_⟩
      · simp only [es,blk,az] at hb; subst hb; exact ⟨e3,e5⟩
      · simp only [es,blk,az] at hb; subst hb; exact .inr (aD _)
      · simp only [aa,qb,iQ,hz,n1,aI]
        have:grownCap c.w (xs.length+ys.length) old E * R.size=xs.length * R.size+ys.length * R.size+(grownCap c.w (xs.length+ys.length) old E - (xs.length+ys.length)) * R.size:=by
          rw [←dA,←dA]; congr 1; omega
        rw [this,Nat.min_eq_left hxl];exact aD _
      · exact helem c' _ (hd.le.trans e2.le)
    rcases h1 with ⟨rfl,rfl⟩ | ⟨g,cap,rfl,hnc,hcm,hcs⟩
    · have hr:=run_append_nil (P:=P) c.w t ty E ti z hT hti hz1 ⟨ub,uo,none⟩ ys.length ucap nw (by rw [n1,hz2]) hcells hpos (by simp at hfar; omega) (by have:=hbytes; simp at this; omega)
      have:=fresh 0 (by simpa using hpos);simp only [au,dz,pr,List.take_zero,qv,dY] at this hr⊢;rw [hr];simpa using this
    · obtain ⟨hg,hA⟩:=hon g rfl
      by_cases hroom:xs.length+ys.length≤cap
      · have hfit:xs.length * R.size+nw.length≤vs.length:=by
          rw [n1,←dA];exact cD (fH _ hroom) hcs
        have hr:=run_append_room (P:=P) c.w t ty E ti hT hti g xs.length cap vs.toArray hg ⟨ub,uo,none⟩ ys.length ucap nw (by rw [n1,hz2]) hcells n3 hroom (by rw [hz2]; simpa using hfit);rw [hz2] at hr;simp only at hr;obtain ⟨c',e1,e2,e3,e4⟩:=Cx.row (m:=vs.take (xs.length * R.size)++nw++vs.drop (xs.length * R.size+nw.length)) hg _ hA (fun o ho=>by
          have ho:o < xs.length * R.size:=by
            cases m
            · exact ho
            · exact absurd ho (Nat.not_lt_zero _)
          rw [aP,bO (by rw [aI]; omega),cA,ac ho];rfl) (cond m 0 ((xs++ys).length * R.size)) (by
            cases m
            · simp only [es,qn]; exact fH _ (by rw [hN]; omega)
            · exact aD _)
        refine ⟨.slice (some ⟨g,0,none⟩) (xs.length+ys.length) cap,c',by rw [hr,e1],e2.le,vs.take (xs.length * R.size)++nw++vs.drop (xs.length * R.size+nw.length),Own.set O k hk e2 (fun b h=>by subst h; rfl) (fun b hb=>?_) (fun b hb=> .inl hb),hp,.inr ⟨g,cap,by rw [hN],by rw [hN]; exact hroom,hcm,?_⟩,helem c' _ e2.le⟩
        · simp only [es,blk,az] at hb; subst hb; exact ⟨e3,e4⟩
        · simp only [aa,cU,aI]
          omega
      · have holds:∀j w,(vs.take (xs.length * R.size))[j]? = some w→c.w.cell? ((⟨g,0,none⟩:Addr).add j)=some w:=fun j w hw=>by
          rw [eF,dz,jF _ _ _ _ _ _ hg,bQ];rw [cA] at hw;split at hw
          · exact hw
          · cases hw
        have hr:=run_append_grow (P:=P) c.w t ty E ti z hT hti hz1 ⟨g,0,none⟩ xs.length cap (vs.take (xs.length * R.size)) (by rw [aI,hz2]; omega) holds ⟨ub,uo,none⟩ ys.length ucap nw (by rw [n1,hz2]) hcells (by omega) (by omega) (growslice_fits (by omega) hbytes);rw [hr];exact fresh cap (by omega)
theorem mT {E t ty:TypeId} {v u:Value} {vs:List Value} {xs ys zs:List α} {z:Value} {by_:Nat} {m:Bool} (k:Nat) (O:Own c G F) (hk:F[k]? = some (es m R v E vs xs)) (h:OA R c v vs xs) (hS:Sl R c u ys) (happ:app xs ys=some zs)
    (hT:P.underlying t=some (.slice E)) (hi:(P.info? E).map (fun i=>(i.zero,i.size,i.bytes))=some (some z,R.size,by_)) (hz:z.cells.size=R.size) (hby:Nat.ble by_ 128=true):
    ∃v' c',(Builtin.append_ #[t,t] ty #[v,u]).run P c.w= .ok v' c'.w∧c.le c'∧∃vs',Own c' G (F.set k (es m R v' E vs' zs))∧OA R c' v' vs' zs:=by
  obtain ⟨nw,n1,n2,n3,n4⟩:=hS.flat;obtain ⟨ua,ucap,rfl,hu1,hu2,hu3⟩:=hS;refine lQ k O hk h n1 (fun hys=>?_) n3 n4 happ hT hi hz hby;have hpos:0 < ys.length:=by
    rcases eM ys.length with h | h
    · exact absurd (cI h) hys
    · exact h
  obtain ⟨ub,uo,_,hua,_⟩:=hu3 0 ys[0] (ak hpos);subst hua;exact ⟨ub,uo,rfl,fun j w hw=>(n2 j w hw).cell⟩
end
end Go.Lt
namespace Go.Lt
section
variable {P:Program} {c c':Cx} {G:Gm} {F:List En} {α:Type} {R:Rp α} {ρ:Operand→Value} {o:Oper}
variable {n:Fr} {ops:Array Oper} {Q:Exit→(Nat→Value)→World→Prop} {rest:List Oper} {e:Nat→Value} {D:List Nat} {K:Cx→Prop} {l:List Oper} {fuel:Nat} {li:List Bool}
theorem WL.mem {X:Value→Cx→Prop} (hg:o.guard=none) (hr:∃v c',(execOp (ev n e) o).run P c.w= .ok (.value v) c'.w∧c.le c'∧X v c')
  (h:∀v c',c.le c'→X v c'→WL P ops n Q rest (upO e o.dst v) c'.w):WL P ops n Q (o :: rest) e c.w:=by
 obtain ⟨v,c',h1,h2,h3⟩:=hr;exact WL.val hg h1 (h v c' h2 h3)
theorem WL.memD {X:Cx→Prop} (hg:o.guard=none) (hr:∃c',(execOp (ev n e) o).run P c.w= .ok .skip c'.w∧c.le c'∧X c')
  (h:∀c',c.le c'→X c'→WL P ops n Q rest (upO e o.dst undef) c'.w):WL P ops n Q (o :: rest) e c.w:=by
 obtain ⟨c',h1,h2,h3⟩:=hr;exact WL.do_ hg h1 (h c' h2 h3)
theorem Go1.mem (i:Nat) {X:Value→Cx→Prop} (hi:l.toArray[i]? = some o) (hsl:cj n l=true) (hw:cS l.toArray n e o=true) (hr:∃v c',(execOp (ev n e) o).run P c.w= .ok (.value v) c'.w∧c.le c'∧X v c')
  (h:∀v c',c.le c'→X v c'→(D.contains i=true∨K c')∧AC D K P l n Q fuel (li.set i true) (upO e o.dst v) c'):Go1 D K P l n Q fuel li e c i:=by
 obtain ⟨v,c',h1,h2,h3⟩:=hr;have:=h v c' h2 h3;exact Go1.val hi hsl hw h1 h2 this.1 this.2
theorem Go1.memD (i:Nat) {X:Cx→Prop} (hi:l.toArray[i]? = some o) (hsl:cj n l=true) (hw:cS l.toArray n e o=true) (hr:∃c',(execOp (ev n e) o).run P c.w= .ok .skip c'.w∧c.le c'∧X c')
  (h:∀c',c.le c'→X c'→(D.contains i=true∨K c')∧AC D K P l n Q fuel (li.set i true) (upO e o.dst undef) c'):Go1 D K P l n Q fuel li e c i:=by
 obtain ⟨c',h1,h2,h3⟩:=hr;have:=h c' h2 h3;exact Go1.do_ hi hsl hw h1 h2 this.1 this.2
theorem Go1.callP (i:Nat) {f:FuncId} {args:Array Value} {X:Cx→Value→Prop} (hi:l.toArray[i]? = some o) (hsl:cj n l=true) (hw:cS l.toArray n e o=true)
  (hrun:(execOp (ev n e) o).run P c.w= .ok (.enter f args) c.w) (hc:Calls P f args c.w (bG c X))
  (h:∀v c',c.le c'→X c' v→(D.contains i=true∨K c')∧AC D K P l n Q fuel (li.set i true) (upO e o.dst v) c'):Go1 D K P l n Q fuel li e c i:=Go1.call hi hsl hw hrun hc h
theorem AC.one (i:Nat) (hr:Region.ready .any l.toArray li.toArray= [i]) (h:Go1 D K P l n Q fuel li e c i):AC D K P l n Q (fuel+1) li e c:=AC.many [i] (by simp) hr ⟨h,trivial⟩
theorem Sl.form {v:Value} {xs:List α} (h:Sl R c v xs):∃a n k,v= .slice a n k:=by
 obtain ⟨a,cap,h,_⟩:=h; exact ⟨_,_,_,h⟩
theorem OA.form {v:Value} {vs:List Value} {xs:List α} (h:OA R c v vs xs):∃a n k,v= .slice a n k:=by
 rcases h.2.1 with ⟨h,_⟩ | ⟨g,cap,h,_⟩ <;> exact ⟨_,_,_,h⟩
theorem va (v:Value) {w:World} (h:WL P ops n Q rest (upO e o.dst v) w) (hg:o.guard=none:=by exact rfl) (hr:(execOp (ev n e) o).run P w= .ok (.value v) w:=by kernel_rfl):WL P ops n Q (o :: rest) e w:=WL.val0 hg hr h
theorem vb {t b:Bool} {w:World} (ht:t=b) (h:WL P ops n Q rest (upO e o.dst (.bool b)) w) (hg:o.guard=none:=by exact rfl) (hr:(execOp (ev n e) o).run P w= .ok (.value (.bool t)) w:=by kernel_rfl):WL P ops n Q (o :: rest) e w:=WL.valb0 ht hg hr h
theorem ps {l:List Oper} {w:World} (h:WL P l.toArray n Q rest (upO e o.dst undef) w) (hs:cj n l=true:=by kernel_rfl) (hw:cS l.toArray n e o=false:=by kernel_rfl):WL P l.toArray n Q (o :: rest) e w:=WL.pass hs hw h
theorem wn {l:List Oper} {w:World} (h:WL P l.toArray n Q ({ o with guard:=none} :: rest) e w) (hs:cj n l=true:=by kernel_rfl) (hw:cS l.toArray n e o=true:=by kernel_rfl):WL P l.toArray n Q (o :: rest) e w:=WL.want hs hw h
theorem ta (i:Nat) (v:Value) (h:AC D K P l n Q fuel (li.set i true) (upO e o.dst v) c) (hi:l.toArray[i]? = some o:=by exact rfl) (ht:tk l n li i=true:=by kernel_rfl) (hw:cS l.toArray n e o=true:=by kernel_rfl)
  (hy:∀w,(execOp (ev n e) o).run P w= .ok (.value v) w:=by intro w; kernel_rfl):AC D K P l n Q (fuel+1) li e c:=AC.take i v hi ht hw (fun c' _=>hy c'.w) h
theorem sr {b:Code} {id:Nat} {l:List Oper} {w:World} (h:WL P l.toArray n (iJ (W P n b Q) Q) l e w):W P n ((Code.region id l.toArray false).seq b) Q e w:=W.seq (W.region h)
theorem wln {K:(Nat→Value)→World→Prop} {Q:Exit→(Nat→Value)→World→Prop} {w:World} (h:K e w):WL P ops n (iJ K Q) [] e w:=WL.nil (nrm h)
theorem vv {o':Oper} (v:Value) {w:World} (h:WL P ops n Q rest (upO (upO e o.dst v) o'.dst v) w) (hg:o.guard=none:=by exact rfl) (hr:(execOp (ev n e) o).run P w= .ok (.value v) w:=by kernel_rfl) (hg':o'.guard=none:=by exact rfl) (hr':(execOp (ev n (upO e o.dst v)) o').run P w= .ok (.value v) w:=by kernel_rfl):WL P ops n Q (o :: o' :: rest) e w:=va v (va v h hg' hr') hg hr
theorem wa {l:List Oper} (v:Value) {w:World} (h:WL P l.toArray n Q rest (upO e o.dst v) w) (hs:cj n l=true:=by kernel_rfl) (hw:cS l.toArray n e o=true:=by kernel_rfl) (hr:(execOp (ev n e) { o with guard:=none}).run P w= .ok (.value v) w:=by kernel_rfl):WL P l.toArray n Q (o :: rest) e w:=wn (va v h rfl hr) hs hw
theorem pz {l:List Oper} {o':Oper} {w:World} (h:WL P l.toArray n Q rest (upO (upO e o.dst undef) o'.dst undef) w) (hs:cj n l=true:=by kernel_rfl) (hw:cS l.toArray n e o=false:=by kernel_rfl) (hw':cS l.toArray n (upO e o.dst undef) o'=false:=by kernel_rfl):WL P l.toArray n Q (o :: o' :: rest) e w:=ps (ps h hs hw') hs hw
theorem OA.blk {v:Value} {vs:List Value} {xs:List α} {i:Int} {x:α} (h:OA R c v vs xs) (hi:idx xs i=some x):Go.Lt.blk v=some (sb v):=by
 rcases h.2.1 with ⟨_,rfl⟩ | ⟨g,cap,rfl,_⟩
 ·have:=iC hi; simp at this; omega
 ·rfl
theorem lz {v:Value} {vs:List Value} {xs:List α} {T E:TypeId} {k:IntKind} {i:Int} {x:α} (hT:P.underlying T=some (.slice E)) (hE:(P.info? E).map (·.size)=some R.size)
  (h:OA R c v vs xs) (hi:idx xs i=some x) (w:World):(Instr.indexAt T v (.int k i)).run P w= .ok (.pointer (some ⟨sb v,i.toNat * R.size,none⟩)) w:=by
 obtain ⟨h1,h2⟩:=iC hi;rcases h.2.1 with ⟨_,rfl⟩ | ⟨g,cap,rfl,_⟩
 ·simp at h2; omega
 ·obtain ⟨ti,hti,hsz⟩:=Option.map_eq_some_iff.1 hE;simp [Instr.indexAt,asIntOf,bR hT,h1,h2,sizeOf,typeInfo,hti,hsz,sb,eF]
theorem OA.at {v:Value} {vs:List Value} {xs:List α} {i:Int} {x:α} (h:OA R c v vs xs) (hi:idx xs i=some x):∃l,R.cells c l x∧(vs.drop (i.toNat * R.size)).take R.size=l:=⟨_,h.2.2 _ _ (bS hi),rfl⟩
theorem at1 {vs l:List Value} {p n j:Nat} {u:Value} (h:(vs.drop p).take n=l) (hj:l[j]? = some u):vs[p+j]? = some u:=by
 subst h;rw [cA] at hj;split at hj
 ·rwa [eN] at hj
 ·cases hj
theorem Own.app {E t ty:TypeId} {v u:Value} {vs:List Value} {xs ys zs:List α} {z:Value} {by_:Nat} {m:Bool} (k:Nat) (O:Own c G F) (hk:F[k]? = some (es m R v E vs xs)) (h:OA R c v vs xs) (hS:Sl R c u ys) (happ:app xs ys=some zs)
  (hT:P.underlying t=some (.slice E)) (hi:(P.info? E).map (fun i=>(i.zero,i.size,i.bytes))=some (some z,R.size,by_)) (hz:z.cells.size=R.size) (hby:Nat.ble by_ 128=true)
  (hx:execOp ρ o=(do pure (Next.value (←Builtin.append_ #[t,t] ty #[v,u])):Sem Next)):
  ∃v' c',(execOp ρ o).run P c.w= .ok (.value v') c'.w∧c.le c'∧∃vs',Own c' G (F.set k (es m R v' E vs' zs))∧OA R c' v' vs' zs:=by
 obtain ⟨v',c',h1,h2,h3⟩:=mT (P:=P) (t:=t) (ty:=ty) k O hk h hS happ hT hi hz hby;exact ⟨v',c',rx hx h1,h2,h3⟩
def kR (R:Rp α) (c:Cx):List (List Value)→List α→Prop
 | [],[]=>True
 | l :: ls,x :: xs=>R.cells c l x∧kR R c ls xs
 | _,_=>False
theorem kR.len:∀{ls:List (List Value)} {xs:List α},kR R c ls xs→ls.flatten.length=xs.length * R.size
 | [],[],_=>by simp
 | l :: ls,x :: xs,h=>by
  simp only [lu,aa,ab,R.len h.1,kR.len h.2,dA,gG];omega
 | [],_ :: _,h=>h.elim
 | _ :: _,[],h=>h.elim
theorem kR.get:∀{ls:List (List Value)} {xs:List α},kR R c ls xs→AR R c ls.flatten xs
 | [],[],_=>fun i x h=>by simp at h
 | l :: ls,x :: xs,h=>fun i y hy=>by
  cases i with
  | zero=>
   simp only [aA,az] at hy;subst hy;rw [pr,List.drop_zero,lu,←R.len h.1,jO];exact h.1
  | succ i=>
   simp only [ii] at hy;rw [lu,dA,gG,Nat.add_comm (i * R.size),←R.len h.1,←List.drop_drop,dg,R.len h.1];exact kR.get h.2 i y hy
 | [],_ :: _,h=>h.elim
 | _ :: _,[],h=>h.elim
theorem Own.newS (m:Bool) {E:TypeId} {vs:List Value} {xs:List α} {cap:Nat} (O:Own c G F) (hp:0 < R.size) (hA:AR R c vs xs) (hc:xs.length≤cap) (hm:cap≤maxLen) (hcs:cap * R.size≤vs.length)
  (hr:(execOp ρ o).run P c.w= .ok (.value (.slice (some ⟨c.w.heap.size,0,none⟩) xs.length cap)) (c.w.alloc (.cells vs.toArray E))):
  ∃v c',(execOp ρ o).run P c.w= .ok (.value v) c'.w∧c.le c'∧∃vs,Own c' G (es m R v E vs xs :: F)∧OA R c' v vs xs:=by
 obtain ⟨c',h1,h2,h3,_,h4⟩:=Cx.new c vs E (cond m 0 (xs.length * R.size));refine ⟨_,c',by rw [h1]; exact hr,h2.le,vs,O.cons h2 (fun _=>id) (fun b hb=>?_) (fun b hb=>?_),hp,.inr ⟨_,_,rfl,hc,hm,hcs⟩,hA.mono h2.le⟩
 ·simp only [es,Go.Lt.blk,az] at hb; subst hb; exact ⟨h3,h4⟩
 ·simp only [es,Go.Lt.blk,az] at hb; omega
theorem Own.sl (m:Bool) {E:TypeId} {ls:List (List Value)} {vs:List Value} {xs:List α} (O:Own c G F) (hp:0 < R.size) (hv:ls.flatten=vs) (hR:kR R c ls xs) (hm:Nat.ble xs.length 4294967296=true)
  (hr:(execOp ρ o).run P c.w= .ok (.value (.slice (some ⟨c.w.heap.size,0,none⟩) xs.length xs.length)) (c.w.alloc (.cells vs.toArray E))):
  ∃v c',(execOp ρ o).run P c.w= .ok (.value v) c'.w∧c.le c'∧∃vs,Own c' G (es m R v E vs xs :: F)∧OA R c' v vs xs:=by
 subst hv;have hm:=bB hm;exact Own.newS m O hp hR.get (aD _) (by unfold maxLen; omega) (by rw [hR.len]; exact aD _) hr
theorem Sl.cut {xs:List α} {l h m:Nat} {a:Option Addr} {cap:Nat} (hS:Sl R c (.slice a xs.length cap) xs) (h1:l≤h) (h2:h≤xs.length) (h3:h≤m) (h4:m≤cap):
  Sl R c (.slice (if m=l then a else a.map (·.add (l * R.size))) (h - l) (m - l)) ((xs.drop l).take (h - l)):=by
 obtain ⟨a',cap',hv,h5,h6,h7⟩:=hS;cases hv;have hlen:((xs.drop l).take (h - l)).length=h - l:=by rw [aI,cU]; omega
 refine ⟨_,m - l,by rw [hlen],by rw [hlen]; omega,by omega,fun i x hx=>?_⟩;rw [cA] at hx;split at hx
 ·rename_i hi
  rw [eN] at hx;obtain ⟨b,off,q,rfl,hq,hc⟩:=h7 _ _ hx;have hne:m≠l:=by omega
  refine ⟨b,off+l * R.size,q,?_,hq,fun j u hu=>?_⟩
  ·rw [ae hne]; simp [eF]
  ·have:=hc j u hu
   rwa [show off+(l+i) * R.size+j=off+l * R.size+i * R.size+j by rw [dA]; omega] at this
 ·cases hx
theorem oV {xs zs:List α} {i j:Int} (h:slc xs i j=some zs):0≤i∧i≤j∧j≤xs.length∧zs=(xs.drop i.toNat).take (j - i).toNat:=by
 unfold slc at h;split at h
 ·rename_i hh
  exact ⟨hh.1,hh.2.1,hh.2.2,by simpa using h.symm⟩
 ·cases h
theorem nd {v:Value} {xs zs:List α} {T E:TypeId} {j:Int} {k':IntKind} (hT:P.underlying T=some (.slice E)) (hE:(P.info? E).map (·.size)=some R.size) (h:Sl R c v xs) (hz:slc xs 0 j=some zs):
  ∃v',(∀w,(Instr.sliceAt T v none (some (.int k' j)) none).run P w= .ok v' w)∧Sl R c v' zs:=by
 obtain ⟨h1,h2,h3,rfl⟩:=oV hz;obtain ⟨ti,hti,hsz⟩:=Option.map_eq_some_iff.1 hE;have hh:=h;obtain ⟨a,cap,rfl,h4,h5,h6⟩:=h;have hcut:=Sl.cut (l:=0) (h:=j.toNat) (m:=cap) hh (by omega) (by omega) (by omega) (aD _);rw [show (j - 0).toNat=j.toNat - 0 by omega];refine ⟨_,fun w=>?_,hcut⟩;have e2:0≤j∧j≤(cap:Int):=⟨by omega,by omega⟩;simp [Instr.sliceAt,bR hT,Instr.slice,Instr.sliceBounds,Instr.sliceBound,asIntOf,e2,sizeOf,typeInfo,hti]
theorem RE.cs {S T:TypeId} {v:Value} {e:Er} (h:RE S T c v e):(v= .nilIface∧e.isNil=true)∨(∃a,v= .iface S (.pointer (some a))∧e.isNil=false)∨∃b,v= .iface T (.pointer (some ⟨b,0,none⟩))∧e.isNil=false:=by
 cases e with
 | nil=>exact .inl ⟨h,rfl⟩
 | sent g=>obtain ⟨b,h,_⟩:=h; exact .inr (.inl ⟨b,h,rfl⟩)
 | fault i e=>obtain ⟨b,u,h,_⟩:=h; exact .inr (.inr ⟨b,h,rfl⟩)
theorem RE.cs3 {S T:TypeId} {v:Value} {e:Er} (h:RE S T c v e):v= .nilIface∨∃t a,v= .iface t (.pointer a):=by
 rcases h.cs with ⟨h,_⟩ | ⟨b,h,_⟩ | ⟨b,h,_⟩
 ·exact .inl h
 ·exact .inr ⟨_,_,h⟩
 ·exact .inr ⟨_,_,h⟩
def oO (G G':Gm):Prop:=∀g k,G g k≠ []→G' g k=G g k
theorem Own.stGB {T:TypeId} {e:En} {b j:Nat} {us nw:List Value} {v:Value} {g k:Nat} {E:List En} (r:Nat) (O:Own c (eq G g k E) F) (hx:execOp ρ o=(do Instr.storeAt T (.pointer (some ⟨b,j,none⟩)) v; pure Next.skip:Sem Next)) (hr:E[r]? = some e) (hb:Go.Lt.blk e.v=some b) (hlim:e.lim=0)
  (hv:v.cells.toList=us) (hs:(P.info? T).map (·.size)=some us.length) (h1:fQ us) (hl:Nat.ble (j+us.length) e.vs.length=true) (hn:e.vs.take j++us++e.vs.drop (j+us.length)=nw):
  ∃c',(execOp ρ o).run P c.w= .ok .skip c'.w∧c.le c'∧Own c' (eq G g k (E.set r ⟨e.v,e.T,nw,0⟩)) F:=by
 obtain ⟨c',h1,h2,h3⟩:=Own.stG (P:=P) r O hx (ct _ _ _ _) hr hb hlim hv hs h1 hl hn;rw [kd] at h3;exact ⟨c',h1,h2,h3⟩
def nb (n:Nat) (ks:List Nat):Bool:=ks.all (fun i=>Nat.blt i n) && decide ks.Nodup
theorem Own.selD (n:Nat) (ks:List Nat) (O:Own c G F) (hks:nb n ks=true) (hn:Nat.ble n F.length=true):Own c G (ks.map (fun i=>F.getD i iS)++F.drop n):=by
 simp only [nb,ai,ij,ag] at hks;have hn:=bB hn;refine Own.sel (L:=F.take n) ks (by rw [fB]; exact O) hks.2 ?_;rw [fu];refine dI fun i hi=>?_;have h1:i < n:=by have:=hks.1 i hi; simpa [Nat.blt_eq] using this
 simp only [Function.comp,cA,ac h1,nZ];rw [ak (by omega)];rfl
end
section
variable {P:Program} {c:Cx} {n:Fr} {e:Nat→Value} {fn:Func} {R:Ending→World→Prop}
theorem qA {t b:Nat} {T U:TypeId} {vs:List Value} (hr:fn.results= #[.cell t T]) (hv:ev n e (.tmp t)= .pointer (some ⟨b,0,none⟩))
  (hT:(P.underlying T).map (fun d=>match d with | .struct _ | .array _ _=>true | _=>false)=some true) (hs:(P.info? T).map (·.size)=some vs.length) (h:c.w.heap[b]? = some (.cells vs.toArray U (0,0)))
  (hR:R (.returned (.agg vs.toArray)) c.w):fA P fn n R .ret e c.w:=by
 have hl:=go (P:=P) (w:=c.w) (b:=b) (o:=0) (l:=vs) hT hs (fun j u hu=>by simp [World.cell?,h,hu]);refine ⟨.agg vs.toArray,?_,hR⟩;have ht:=dR n e t;rw [hv,bC] at ht;simp [results,hr,ht,asAddr,hl]
theorem er {t u b:Nat} {T U:TypeId} {vs:List Value} {v:Value} (hr:fn.results= #[.cell t T,.tmp u]) (hv:ev n e (.tmp t)= .pointer (some ⟨b,0,none⟩)) (hu:ev n e (.tmp u)=v)
  (hT:(P.underlying T).map (fun d=>match d with | .struct _ | .array _ _=>true | _=>false)=some true) (hs:(P.info? T).map (·.size)=some vs.length) (h:c.w.heap[b]? = some (.cells vs.toArray U (0,0)))
  (hR:R (.returned (.tuple #[.agg vs.toArray,v])) c.w):fA P fn n R .ret e c.w:=by
 have hl:=go (P:=P) (w:=c.w) (b:=b) (o:=0) (l:=vs) hT hs (fun j u hu=>by simp [World.cell?,h,hu]);refine ⟨.tuple #[.agg vs.toArray,v],?_,hR⟩;have ht:=dR n e t;have hu':=dR n e u;rw [hv,bC] at ht;rw [hu,bC] at hu';simp [results,hr,ht,hu',asAddr,hl,Result.andThen]
theorem qf {w:World} {t u s:Nat} {v v' v'':Value} (hr:fn.results= #[.tmp t,.tmp u,.tmp s]) (hv:ev n e (.tmp t)=v) (hu:ev n e (.tmp u)=v') (hs:ev n e (.tmp s)=v'')
  (h:R (.returned (.tuple #[v,v',v''])) w):fA P fn n R .ret e w:=by
 refine ⟨.tuple #[v,v',v''],?_,h⟩;have h1:=dR n e t;have h2:=dR n e u;have h3:=dR n e s;rw [hv,bC] at h1;rw [hu,bC] at h2;rw [hs,bC] at h3;simp [results,hr,h1,h2,h3]
end
section
variable {P:Program} {ρ:Operand→Value} {o:Oper} {T U:TypeId} {xs ys:Array Value} {fs:Array Field} {r:Bool}
end
end Go.Lt
namespace Go.Lt
abbrev T16:=Int×Int×Int×Int×Int×Int×Int×Int×Int×Int×Int×Int×Int×Int×Int×Int
def l16 (l:List Int):T16:=(l.getD 0 0,l.getD 1 0,l.getD 2 0,l.getD 3 0,l.getD 4 0,l.getD 5 0,l.getD 6 0,l.getD 7 0,l.getD 8 0,l.getD 9 0,l.getD 10 0,l.getD 11 0,l.getD 12 0,l.getD 13 0,l.getD 14 0,l.getD 15 0)
theorem oq {α:Type} (pre l post:List α) {m:Nat} (x:α) (h:m < l.length):(pre++l++post).take (pre.length+m * 1)++ [x]++(pre++l++post).drop (pre.length+m * 1+1)=pre++l.set m x++post:=by
 rw [Nat.mul_one,aP pre l post,List.take_append,List.drop_append,iH (by omega),List.drop_of_length_le (l:=pre) (by omega),dY];rw [show pre.length+m - pre.length=m by omega,show pre.length+m+1 - pre.length=m+1 by omega];rw [mu (by omega),mv (by omega)];rw [List.set_eq_take_append_cons_drop,ac h];simp only [aP,cg,dY]
section
variable {P:Program} {c c':Cx} {G:Gm} {F:List En} {ρ:Operand→Value} {o:Oper}
theorem lA {T E:TypeId} {n sz b j:Nat} {k:IntKind} {i:Int} (hT:P.underlying T=some (.array n E)) (hE:(P.info? E).map (·.size)=some sz) (h0:0≤i) (h1:i < (n:Int)) (w:World):
  (Instr.indexAt T (.pointer (some ⟨b,j,none⟩)) (.int k i)).run P w= .ok (.pointer (some ⟨b,j+i.toNat * sz,none⟩)) w:=by
 obtain ⟨ti,hti,hsz⟩:=Option.map_eq_some_iff.1 hE;simp [Instr.indexAt,asIntOf,Instr.sureAddr,bR hT,h0,h1,sizeOf,typeInfo,hti,hsz,eF]
def nC (k:IntKind) (a b:Int):Int:=k.wrap ((BitVec.ofInt k.bits a &&& BitVec.ofInt k.bits b).toNat:Int)
def lG (k:IntKind) (a b:Int):Int:=k.wrap ((BitVec.ofInt k.bits a ||| BitVec.ofInt k.bits b).toNat:Int)
end
end Go.Lt
namespace Go.Lt
section
variable {P:Program} {c c':Cx} {G:Gm} {F:List En} {ρ:Operand→Value} {o:Oper}
def eU (s:ByteArray) (i:Int):Option Int:=if 0≤i then (s[i.toNat]?).map (fun b=>(b.toNat:Int)) else none
theorem cP {T:TypeId} {s:ByteArray} {k:IntKind} {i x:Int} (hT:P.underlying T=some .string) (h:eU s i=some x) (w:World):(Instr.index T (.string s) (.int k i)).run P w= .ok (.int .u8 x) w:=by
 unfold eU at h;split at h
 ·rename_i h0
  obtain ⟨b,hb,rfl⟩:=Option.map_eq_some_iff.1 h;simp [Instr.index,asIntOf,bR hT,h0,hb]
 ·cases h
end
section
variable {P:Program} {c:Cx} {n:Fr} {e:Nat→Value} {fn:Func} {R:Ending→World→Prop}
end
section
variable {D:List Nat} {K:Cx→Prop} {P:Program} {l:List Oper} {n:Fr} {Q:Exit→(Nat→Value)→World→Prop} {fuel:Nat} {li:List Bool} {e:Nat→Value} {c:Cx} {o:Oper}
theorem Go1.late (i:Nat) (v:Value) (hi:l.toArray[i]? = some o) (hsl:cj n l=true) (hw:cS l.toArray n e o=true) (hr:(execOp (ev n e) o).run P c.w= .ok (.value v) c.w)
  (hk:D.contains i=true) (h:AC D K P l n Q fuel (li.set i true) (upO e o.dst v) c):Go1 D K P l n Q fuel li e c i:=Go1.val hi hsl hw hr (Cx.le.refl c) (.inl hk) h
end
end Go.Lt
namespace Go.Lt
theorem pt {c c':Cx} (k:c.le c':=by repeat (first | assumption | exact Cx.le.refl _ | refine Cx.le.trans ?_ (by assumption))):c.le c':=k
section
variable {c c':Cx} {α:Type} {R:Rp α}
theorem Sl.m {v:Value} {xs:List α} (h:Sl R c v xs) (k:c.le c':=by repeat (first | assumption | refine Cx.le.trans ?_ (by assumption))):Sl R c' v xs:=h.mono k
theorem OA.m {v:Value} {vs:List Value} {xs:List α} (h:OA R c v vs xs) (k:c.le c':=by repeat (first | assumption | refine Cx.le.trans ?_ (by assumption))):OA R c' v vs xs:=h.mono k
theorem Pt.m {g:Nat} {v:Value} {p:Option Nat} (h:Pt g c v p) (k:c.le c':=by repeat (first | assumption | refine Cx.le.trans ?_ (by assumption))):Pt g c' v p:=h.mono k
theorem RE.m {S T:TypeId} {v:Value} {e:Er} (h:RE S T c v e) (k:c.le c':=by repeat (first | assumption | refine Cx.le.trans ?_ (by assumption))):RE S T c' v e:=h.mono k
theorem mm {b o:Nat} {L:List Value} (h:∀j u,L[j]? = some u→Im c b (o+j) u) (k:c.le c':=by repeat (first | assumption | refine Cx.le.trans ?_ (by assumption))):∀j u,L[j]? = some u→Im c' b (o+j) u:=fun j u hu=>(h j u hu).mono k
theorem tm {g k b:Nat} (h:c.t g k=some b) (l:c.le c':=by repeat (first | assumption | refine Cx.le.trans ?_ (by assumption))):c'.t g k=some b:=l.t _ _ _ h
end
theorem ld {e:Nat→Value}:∀{l:List (Nat×Value)},l.map (fun x=>e x.1)=l.map (fun x=>x.2)→holds e l
 | [],_=>trivial
 | (t,v) :: l,h=>by
  simp only [fE,List.cons.injEq] at h;exact ⟨h.1,ld h.2⟩
theorem us {e:Nat→Value} {l:List (Nat×Value)} (h:l.map (fun x=>e x.1)=l.map (fun x=>x.2):=by kernel_rfl):e=ups e l:=fZ (ld h)
abbrev Jn (c0:Cx) (q:Cx→List (Nat×Value)→Prop) (e:Nat→Value) (w:World):Prop:=∃(c:Cx) (g:Nat→Value) (l:List (Nat×Value)),w=c.w∧c0.le c∧e=ups g l∧q c l
theorem jn {c0:Cx} {q:Cx→List (Nat×Value)→Prop} {e:Nat→Value} {l:List (Nat×Value)} (c:Cx) (h:q c l) (k:c0.le c:=by repeat (first | assumption | exact Cx.le.refl _ | refine Cx.le.trans ?_ (by assumption))) (u:l.map (fun x=>e x.1)=l.map (fun x=>x.2):=by kernel_rfl):Jn c0 q e c.w:=⟨c,e,l,rfl,k,us u,h⟩
theorem qq {c0:Cx} {X:Cx→Value→Prop} {v:Value} (c:Cx) (h:X c v) (k:c0.le c:=by repeat (first | assumption | exact Cx.le.refl _ | refine Cx.le.trans ?_ (by assumption))):bG c0 X (.returned v) c.w:=⟨v,c,rfl,rfl,k,h⟩
theorem bn {α β:Type} {x:Option α} {f:α→Option β} {r:β} {C:Prop} (H:x.bind f=some r) (k:∀a,x=some a→f a=some r→C):C:=by
 obtain ⟨a,h1,h2⟩:=bs H;exact k a h1 h2
theorem si {α:Type} {a b:α} (h:some a=some b):a=b:=ao h
theorem bo (b:Bool):b=true∨b=false:=Bool.eq_false_or_eq_true b
theorem Own.sD {c:Cx} {G:Gm} {F:List En} (O:Own c G F) (n:Nat) (ks:List Nat) (h1:nb n ks=true:=by kernel_rfl) (h2:Nat.ble n F.length=true:=by kernel_rfl):Own c G (ks.map (fun i=>F.getD i iS)++F.drop n):=O.selD n ks h1 h2
section
variable {P:Program} {c c':Cx} {G:Gm} {F:List En} {α:Type} {R:Rp α} {ρ:Operand→Value} {o:Oper} {fn:Func}
variable {n:Fr} {ops:Array Oper} {Q:Exit→(Nat→Value)→World→Prop} {rest:List Oper} {e:Nat→Value} {D:List Nat} {K:Cx→Prop} {l:List Oper} {fuel:Nat} {li:List Bool} {a b:Code} {w:World}
def val:Result Next→Value
 | .ok (.value v) _=>v
 | _=>undef
theorem vx {s:Sem Value} {v:Value} (h0:s.run P w= .ok v w) (h:WL P ops n Q rest (upO e o.dst v) w) (hg:o.guard=none:=by exact rfl) (hx:execOp (ev n e) o=(do pure (Next.value (←s)):Sem Next):=by kernel_rfl):WL P ops n Q (o :: rest) e w:=WL.val0 hg (rx hx h0) h
theorem vr (v:Value) (hr:(execOp (ev n e) o).run P w= .ok (.value v) w) (h:WL P ops n Q rest (upO e o.dst v) w) (hg:o.guard=none:=by exact rfl):WL P ops n Q (o :: rest) e w:=WL.val0 hg hr h
theorem cl {f:FuncId} {args:Array Value} {X:Cx→Value→Prop} (hc:Calls P f args c.w (bG c X)) (h:∀v c',c.le c'→X c' v→WL P ops n Q rest (upO e o.dst v) c'.w) (hg:o.guard=none:=by exact rfl) (hr:(execOp (ev n e) o).run P c.w= .ok (.enter f args) c.w:=by kernel_rfl):WL P ops n Q (o :: rest) e c.w:=WL.callP hg hr hc h
theorem me {X:Value→Cx→Prop} (hr:∃v c',(execOp (ev n e) o).run P c.w= .ok (.value v) c'.w∧c.le c'∧X v c') (h:∀v c',c.le c'→X v c'→WL P ops n Q rest (upO e o.dst v) c'.w) (hg:o.guard=none:=by exact rfl):WL P ops n Q (o :: rest) e c.w:=WL.mem hg hr h
theorem md {X:Cx→Prop} (hr:∃c',(execOp (ev n e) o).run P c.w= .ok .skip c'.w∧c.le c'∧X c') (h:∀c',c.le c'→X c'→WL P ops n Q rest (upO e o.dst undef) c'.w) (hg:o.guard=none:=by exact rfl):WL P ops n Q (o :: rest) e c.w:=WL.memD hg hr h
theorem cn {α:Type} {t:Bool} {x y:Option α} {r:α} {cd:Operand} (H:(if t=true then x else y)=some r) (h1:t=true→x=some r→W P n a Q e w) (h2:t=false→y=some r→W P n b Q e w) (hc:ev n e cd= .bool t:=by kernel_rfl):W P n (.cond cd a b) Q e w:=
 W.cond hc (fun h=>h1 h (it h H)) (fun h=>h2 h (ie h H))
theorem lp {σ τ:Type} {step:σ→Option (σ ⊕ τ)} {fuel:Nat} {s:σ} {t:τ} (H:cT fuel step s=some t) (F:σ→(Nat→Value)→World→Prop) (Out:τ→Exit→(Nat→Value)→World→Prop)
  (hb:∀s x e w,step s=some x→F s e w→W P n a (lpQ F Out x) e w) (h0:F s e w) (hQ:∀x e w,Out t x e w→Q x e w):W P n (.loop a) Q e w:=W.loop F Out hb H h0 hQ
theorem en {P:Program} {f:FuncId} {fn:Func} {code:Code} {n:Nat} {l:List Value} {w:World} {R:Ending→World→Prop} (hf:P.funcs[f]? = some fn) (hb:fn.body=some code) (hn:fn.ntmps=n) (h:W P ⟨n,[],none⟩ code (fA P fn ⟨n,[],none⟩ R) (ar l) w) (hl:Nat.ble l.length n=true:=by rfl):Calls P f l.toArray w R:=enter hf hb hn hl h
theorem tx (i:Nat) {s:Sem Value} {v:Value} (h0:∀c',c.le c'→s.run P c'.w= .ok v c'.w) (h:AC D K P l n Q fuel (li.set i true) (upO e o.dst v) c) (hi:l.toArray[i]? = some o:=by exact rfl) (ht:tk l n li i=true:=by kernel_rfl) (hw:cS l.toArray n e o=true:=by kernel_rfl)
  (hx:execOp (ev n e) o=(do pure (Next.value (←s)):Sem Next):=by kernel_rfl):AC D K P l n Q (fuel+1) li e c:=AC.take i v hi ht hw (fun c' k=>rx hx (h0 c' k)) h
theorem tkx (i:Nat) {s:Sem Value} {v:Value} (p:K c) (h0:∀c',c.le c'→K c'→s.run P c'.w= .ok v c'.w) (h:AC D K P l n Q fuel (li.set i true) (upO e o.dst v) c) (hi:l.toArray[i]? = some o:=by exact rfl) (ht:tk l n li i=true:=by kernel_rfl) (hB:okB l.toArray li i D=true:=by kernel_rfl)
  (hw:cS l.toArray n e o=true:=by kernel_rfl) (hx:execOp (ev n e) o=(do pure (Next.value (←s)):Sem Next):=by kernel_rfl):AC D K P l n Q (fuel+1) li e c:=AC.takeK i v p hi ht hB hw (fun c' k q=>rx hx (h0 c' k q)) h
theorem tp (i:Nat) (h:AC D K P l n Q fuel (li.set i true) (upO e o.dst undef) c) (hi:l.toArray[i]? = some o:=by exact rfl) (ht:tk l n li i=true:=by kernel_rfl) (hw:cS l.toArray n e o=false:=by kernel_rfl):AC D K P l n Q (fuel+1) li e c:=AC.pass i hi ht hw h
theorem dn (h:Q .normal e c.w) (hr:Region.ready .any l.toArray li.toArray= []:=by kernel_rfl):AC D K P l n Q fuel li e c:=AC.done hr h
theorem o1 (i:Nat) (h:Go1 D K P l n Q fuel li e c i) (hr:Region.ready .any l.toArray li.toArray= [i]:=by kernel_rfl):AC D K P l n Q (fuel+1) li e c:=AC.one i hr h
theorem gm (i:Nat) {X:Value→Cx→Prop} (hr:∃v c',(execOp (ev n e) o).run P c.w= .ok (.value v) c'.w∧c.le c'∧X v c') (h:∀v c',c.le c'→X v c'→(D.contains i=true∨K c')∧AC D K P l n Q fuel (li.set i true) (upO e o.dst v) c')
  (hi:l.toArray[i]? = some o:=by exact rfl) (hsl:cj n l=true:=by kernel_rfl) (hw:cS l.toArray n e o=true:=by kernel_rfl):Go1 D K P l n Q fuel li e c i:=Go1.mem i hi hsl hw hr h
theorem gD (i:Nat) {X:Cx→Prop} (hr:∃c',(execOp (ev n e) o).run P c.w= .ok .skip c'.w∧c.le c'∧X c') (h:∀c',c.le c'→X c'→(D.contains i=true∨K c')∧AC D K P l n Q fuel (li.set i true) (upO e o.dst undef) c')
  (hi:l.toArray[i]? = some o:=by exact rfl) (hsl:cj n l=true:=by kernel_rfl) (hw:cS l.toArray n e o=true:=by kernel_rfl):Go1 D K P l n Q fuel li e c i:=Go1.memD i hi hsl hw hr h
theorem gc (i:Nat) {f:FuncId} {args:Array Value} {X:Cx→Value→Prop} (hc:Calls P f args c.w (bG c X)) (h:∀v c',c.le c'→X c' v→(D.contains i=true∨K c')∧AC D K P l n Q fuel (li.set i true) (upO e o.dst v) c')
  (hi:l.toArray[i]? = some o:=by exact rfl) (hsl:cj n l=true:=by kernel_rfl) (hw:cS l.toArray n e o=true:=by kernel_rfl) (hr:(execOp (ev n e) o).run P c.w= .ok (.enter f args) c.w:=by kernel_rfl):Go1 D K P l n Q fuel li e c i:=Go1.callP i hi hsl hw hr hc h
theorem rD (D:List Nat) (K:Cx→Prop) {id:Nat} (O:Own c G F) (h:∀c',c.le c'→Own c' G F→AC D K P l n Q l.length (List.replicate l.length false) e c') (hm:P.follows .mixedOrders=true:=by kernel_rfl):W P n (.region id l.toArray true) Q e c.w:=W.regionD D K O hm h
theorem l1 {T:TypeId} {b o:Nat} {v:Value} {d:TypeDesc} (hT:P.underlying T=some d) (h:Im c b o v) (hd:(match d with | .struct _ | .array _ _=>false | _=>true)=true:=by rfl):(Instr.loadAt T (.pointer (some ⟨b,o,none⟩))).run P c.w= .ok v c.w:=gp hT hd h
theorem lN (T:TypeId) {b o:Nat} {l:List Value} (h:∀j u,l[j]? = some u→Im c b (o+j) u) (hT:(P.underlying T).map (fun d=>match d with | .struct _ | .array _ _=>true | _=>false)=some true:=by kernel_rfl) (hs:(P.info? T).map (·.size)=some l.length:=by kernel_rfl):
  (Instr.loadAt T (.pointer (some ⟨b,o,none⟩))).run P c.w= .ok (.agg l.toArray) c.w:=iv hT hs h
theorem le1 (j:Nat) {T:TypeId} {e:En} {b:Nat} {v:Value} {d:TypeDesc} (hT:P.underlying T=some d) (h:e.on c) (hd:(match d with | .struct _ | .array _ _=>false | _=>true)=true:=by rfl) (hb:blk e.v=some b:=by rfl) (hj:e.vs[j]? = some v:=by rfl):
  (Instr.loadAt T (.pointer (some ⟨b,j,none⟩))).run P c.w= .ok v c.w:=pE hT hd h hb hj
theorem leN (T j:Nat) (l:List Value) {e:En} {b:Nat} (h:e.on c) (hT:(P.underlying T).map (fun d=>match d with | .struct _ | .array _ _=>true | _=>false)=some true:=by kernel_rfl) (hs:(P.info? T).map (·.size)=some l.length:=by kernel_rfl) (hb:blk e.v=some b:=by rfl) (hl:(e.vs.drop j).take l.length=l:=by rfl):
  (Instr.loadAt T (.pointer (some ⟨b,j,none⟩))).run P c.w= .ok (.agg l.toArray) c.w:=pD hT hs h hb hl
theorem ix {v:Value} {xs:List α} {T E:TypeId} {i:Int} {x:α} (hT:P.underlying T=some (.slice E)) (h:Sl R c v xs) (hi:idx xs i=some x) (hE:(P.info? E).map (·.size)=some R.size:=by kernel_rfl):
  (Instr.indexAt T v (.int .i64 i)).run P w= .ok (.pointer (some ⟨sb v,so v+i.toNat * R.size,none⟩)) w:=ke hT hE h hi w
theorem ixO {v:Value} {vs:List Value} {xs:List α} {T E:TypeId} {i:Int} {x:α} (hT:P.underlying T=some (.slice E)) (h:OA R c v vs xs) (hi:idx xs i=some x) (hE:(P.info? E).map (·.size)=some R.size:=by kernel_rfl):
  (Instr.indexAt T v (.int .i64 i)).run P w= .ok (.pointer (some ⟨sb v,i.toNat * R.size,none⟩)) w:=lz hT hE h hi w
theorem ln {v:Value} {xs:List α} {T E:TypeId} (ty:TypeId) (hT:P.underlying T=some (.slice E)) (h:Sl R c v xs):(Builtin.len_ #[T] ty #[v]).run P w= .ok (.int .i64 (xs.length:Int)) w:=lY hT h w
theorem lnO {v:Value} {vs:List Value} {xs:List α} {T E:TypeId} (ty:TypeId) (hT:P.underlying T=some (.slice E)) (h:OA R c v vs xs):(Builtin.len_ #[T] ty #[v]).run P w= .ok (.int .i64 (xs.length:Int)) w:=nc hT h w
theorem bx (T:TypeId) (vs:List Value) (O:Own c G F) (hr:(execOp ρ o).run P c.w= .ok (.value (.pointer (some ⟨c.w.heap.size,0,none⟩))) (c.w.alloc (.cells vs.toArray T)):=by kernel_rfl):
  ∃v c',(execOp ρ o).run P c.w= .ok (.value v) c'.w∧c.le c'∧∃b,v= .pointer (some ⟨b,0,none⟩)∧Own c' G F∧∀j u,vs[j]? = some u→Im c' b (0+j) u:=Own.bx O hr
theorem al (T:TypeId) (vs:List Value) (O:Own c G F) (hr:(execOp ρ o).run P c.w= .ok (.value (.pointer (some ⟨c.w.heap.size,0,none⟩))) (c.w.alloc (.cells vs.toArray T)):=by kernel_rfl):
  ∃v c',(execOp ρ o).run P c.w= .ok (.value v) c'.w∧c.le c'∧∃b,v= .pointer (some ⟨b,0,none⟩)∧Own c' G (⟨.pointer (some ⟨b,0,none⟩),T,vs,0⟩ :: F):=Own.al O hr
theorem sA (T:TypeId) (us:List Value) {e:En} {b:Nat} (k:Nat) (O:Own c G F) (h1:fQ us) (hx:execOp ρ o=(do Instr.storeAt T (.pointer (some ⟨b,0,none⟩)) (.agg us.toArray); pure Next.skip:Sem Next):=by kernel_rfl) (hk:F[k]? = some e:=by rfl) (hb:blk e.v=some b:=by rfl) (hlim:e.lim=0:=by rfl)
  (hs:(P.info? T).map (·.size)=some us.length:=by kernel_rfl) (hl:Nat.ble (0+us.length) e.vs.length=true:=by rfl) (hn:e.vs.take 0++us++e.vs.drop (0+us.length)=us:=by rfl):∃c',(execOp ρ o).run P c.w= .ok .skip c'.w∧c.le c'∧Own c' G (F.set k ⟨e.v,e.T,us,0⟩):=Own.st k O hx hk hb hlim rfl hs h1 hl hn
theorem pk {v:Value} (h:v.oneCell'=true):v.cells.toList= [v]:=by
 cases v <;> first | rfl | (simp [Value.oneCell'] at h)
theorem gC (T j:Nat) (v:Value) (nw:List Value) {e:En} {b g k:Nat} {E:List En} (r:Nat) (O:Own c G F) (hE:G g k=E) (h1:fQ [v]) (hx:execOp ρ o=(do Instr.storeAt T (.pointer (some ⟨b,j,none⟩)) v; pure Next.skip:Sem Next):=by kernel_rfl) (hr:E[r]? = some e:=by rfl) (hb:blk e.v=some b:=by rfl) (hlim:e.lim=0:=by rfl)
  (hs:(P.info? T).map (·.size)=some 1:=by kernel_rfl) (hl:Nat.ble (j+1) e.vs.length=true:=by rfl) (hn:e.vs.take j++ [v]++e.vs.drop (j+1)=nw:=by rfl):∃c',(execOp ρ o).run P c.w= .ok .skip c'.w∧c.le c'∧Own c' (eq G g k (E.set r ⟨e.v,e.T,nw,0⟩)) F:=Own.stG r O hx hE hr hb hlim (pk h1.1) hs h1 hl hn
theorem sl (R:Rp α) (E:TypeId) (ls:List (List Value)) (xs:List α) (O:Own c G F) (hR:kR R c ls xs) (hp:0 < R.size:=by exact be _) (hm:Nat.ble xs.length 4294967296=true:=by kernel_rfl)
  (hr:(execOp ρ o).run P c.w= .ok (.value (.slice (some ⟨c.w.heap.size,0,none⟩) xs.length xs.length)) (c.w.alloc (.cells ls.flatten.toArray E)):=by kernel_rfl):
  ∃v c',(execOp ρ o).run P c.w= .ok (.value v) c'.w∧c.le c'∧∃vs,Own c' G (es true R v E vs xs :: F)∧OA R c' v vs xs:=Own.sl true O hp rfl hR hm hr
theorem ap (R:Rp α) (z:Value) (by_ ty:Nat) {E t:TypeId} {v u:Value} {vs:List Value} {xs ys zs:List α} {m:Bool} (k:Nat) (O:Own c G F) (h:OA R c v vs xs) (hS:Sl R c u ys) (happ:app xs ys=some zs) (hT:P.underlying t=some (.slice E)) (hk:F[k]? = some (es m R v E vs xs):=by rfl)
  (hi:(P.info? E).map (fun i=>(i.zero,i.size,i.bytes))=some (some z,R.size,by_):=by kernel_rfl) (hz:z.cells.size=R.size:=by rfl) (hby:Nat.ble by_ 128=true:=by kernel_rfl) (hx:execOp ρ o=(do pure (Next.value (←Builtin.append_ #[t,t] ty #[v,u])):Sem Next):=by kernel_rfl):
  ∃v' c',(execOp ρ o).run P c.w= .ok (.value v') c'.w∧c.le c'∧∃vs',Own c' G (F.set k (es m R v' E vs' zs))∧OA R c' v' vs' zs:=Own.app k O hk h hS happ hT hi hz hby hx
variable {RR:Ending→World→Prop}
theorem r0 (h:RR (.returned (.tuple #[])) w) (hr:fn.results= #[]:=by rfl):fA P fn n RR .ret e w:=qh hr h
theorem n0 (h:RR (.returned (.tuple #[])) w) (hr:fn.results= #[]:=by rfl):fA P fn n RR .normal e w:=ql hr h
theorem r1 {t:Nat} {v:Value} (h:RR (.returned v) w) (hr:fn.results= #[.tmp t]:=by rfl) (hv:ev n e (.tmp t)=v:=by kernel_rfl):fA P fn n RR .ret e w:=ot hr hv h
theorem r2 {t u:Nat} {v v':Value} (h:RR (.returned (.tuple #[v,v'])) w) (hr:fn.results= #[.tmp t,.tmp u]:=by rfl) (hv:ev n e (.tmp t)=v:=by kernel_rfl) (hu:ev n e (.tmp u)=v':=by kernel_rfl):fA P fn n RR .ret e w:=qg hr hv hu h
theorem r3 {t u s:Nat} {v v' v'':Value} (h:RR (.returned (.tuple #[v,v',v''])) w) (hr:fn.results= #[.tmp t,.tmp u,.tmp s]:=by rfl) (hv:ev n e (.tmp t)=v:=by kernel_rfl) (hu:ev n e (.tmp u)=v':=by kernel_rfl) (hs:ev n e (.tmp s)=v'':=by kernel_rfl):fA P fn n RR .ret e w:=qf hr hv hu hs h
end
abbrev I (x:Int):Value:= .int .i64 x
abbrev J (x:Int):Value:= .int .i32 x
abbrev B (x:Bool):Value:= .bool x
abbrev Q (b:Nat):Value:= .pointer (some ⟨b,0,none⟩)
abbrev Qo (b o:Nat):Value:= .pointer (some ⟨b,o,none⟩)
abbrev qD (a b c:Int):Value:= .agg #[I a,I b,I c]
abbrev III (a b:Int):Value:= .agg #[I a,I b]
abbrev qC (a b c:Int):Value:= .agg #[J a,J b,J c]
abbrev JII (a b:Int):Value:= .agg #[J a,J b]
abbrev Y:Value:= .slice none 0 0
abbrev Eb (b:Nat) (T:TypeId) (l:List Value):En:=⟨.pointer (some ⟨b,0,none⟩),T,l,0⟩
end Go.Lt
namespace Go.Lt
def fc (l:List Int):ByteArray:=⟨(l.map fun x=>UInt8.ofNat x.toNat).toArray⟩
def eqS (a b:ByteArray):Bool:=a.data.toList==b.data.toList
theorem ed {P:Program} {ρ:Operand→Value} {o:Oper} {a b:ByteArray} {w:World} (hr:(execOp ρ o).run P w= .ok (.value (.bool (a.toList==b.toList))) w):(execOp ρ o).run P w= .ok (.value (.bool (eqS a b))) w:=by
 rw [hr,fT,fT];rfl
theorem eV {P:Program} {ρ:Operand→Value} {o:Oper} {a b:ByteArray} {w:World} (hr:(execOp ρ o).run P w= .ok (.value (.bool (!(a.toList==b.toList)))) w):(execOp ρ o).run P w= .ok (.value (.bool (!eqS a b))) w:=by
 rw [hr,fT,fT];rfl
theorem jA:∀(l:List Int) (r:ByteArray),l.foldl (fun r n=>r.push (UInt8.ofNat n.toNat)) r=⟨r.data++(fc l).data⟩
 | [],r=>by simp [fc]
 | x :: l,r=>by
  rw [List.foldl_cons,jA l];simp [fc,ByteArray.push]
theorem gR {P:Program} {c:Cx} {src dst e:TypeId} {v:Value} {xs:List Int} (hs:P.underlying src=some (.slice e)) (he:P.underlying e=some (.int .u8)) (hd:P.underlying dst=some .string) (h:Sl (RI .u8) c v xs):
  (convert src dst v).run P c.w= .ok (.string (fc xs)) c.w:=by
 obtain ⟨a,cap,rfl,_,_,h4⟩:=h;rw [run_convert_bytes_string c.w src dst e a xs.length cap hs he hd]
 cases xs with
 | nil=>
  cases a with
  | none=>rfl
  | some ad=>
   have:=qw (P:=P) c.w ad 0 cap [] (by simp [loadCells,loadCellsFrom]);exact this
 | cons y t=>
  obtain ⟨b,off,l,rfl,_,_⟩:=h4 0 y rfl;have hl:=run_loadCells_list (P:=P) (w:=c.w) ⟨b,off,none⟩ ((y :: t).map (Value.int .u8)) (fun j v hj=>by
   rw [ep,Option.map_eq_some_iff] at hj;obtain ⟨x,hx,rfl⟩:=hj;obtain ⟨b',off',l',e,hl,hc⟩:=h4 j x hx;cases e;have:=(hc 0 _ (by rw [show l'= [.int .u8 x] from hl]; rfl)).cell;rw [show off+j * (RI .u8).size+0=off+j by show off+j * 1+0=off+j; omega] at this;rw [eF];exact this)
  rw [aG] at hl;rw [qw c.w ⟨b,off,none⟩ (y :: t).length cap (y :: t) hl,jA,show ByteArray.empty.data= #[] from rfl,qv]
def aR (s:ByteArray):Int:=(s.size:Int)
def cx (a b:ByteArray):Option ByteArray:=if a.size+b.size≤far then some (a++b) else none
def eE (s:ByteArray) (i j:Int):Option ByteArray:=if 0≤i∧i≤j∧j≤s.size then some (s.extract i.toNat j.toNat) else none
theorem lW {s r:ByteArray} {i j:Int} (h:eE s i j=some r):(0≤i∧i≤j∧j≤s.size)∧s.extract i.toNat j.toNat=r:=by
 unfold eE at h;split at h
 ·exact ⟨by assumption,by simpa using h⟩
 ·cases h
theorem cE {P:Program} {T ty:TypeId} {s:ByteArray} (hT:P.underlying T=some .string) (w:World):(Builtin.len_ #[T] ty #[.string s]).run P w= .ok (.int .i64 (aR s)) w:=run_len_string w T ty s hT
theorem ay {P:Program} {a b r:ByteArray} (h:cx a b=some r) (w:World):(Op.stringOp .add a b).run P w= .ok (.string r) w:=by
 unfold cx far at h;split at h
 ·cases h;exact run_string_add_sum w a b (by omega)
 ·cases h
theorem cL {P:Program} {T:TypeId} {s r:ByteArray} {k k':IntKind} {i j:Int} (hT:P.underlying T=some .string) (h:eE s i j=some r) (w:World):(Instr.sliceAt T (.string s) (some (.int k i)) (some (.int k' j)) none).run P w= .ok (.string r) w:=by
 rw [qe _ _ _ _ _ _ hT];obtain ⟨⟨h0,h1,h2⟩,rfl⟩:=lW h;exact run_slice_string w T s k k' i j hT h0 h1 h2
theorem mz {P:Program} {T:TypeId} {s r:ByteArray} {k':IntKind} {j:Int} (hT:P.underlying T=some .string) (h:eE s 0 j=some r) (w:World):(Instr.sliceAt T (.string s) none (some (.int k' j)) none).run P w= .ok (.string r) w:=by
 rw [qe _ _ _ _ _ _ hT];obtain ⟨⟨h0,h1,h2⟩,rfl⟩:=lW h;rw [run_slice_string_to_if w T s k' j hT,ac ⟨h1,h2⟩];rfl
abbrev T2:=Int×Int
def a2 (t:T2):List Int:=[t.1,t.2]
def mr (t:T2) (i x:Int):T2:=(((a2 t).set i.toNat x).getD 0 0,((a2 t).set i.toNat x).getD 1 0)
theorem lS (t:T2):(a2 t).length=2:=rfl
theorem oL (t:T2) (i x:Int):a2 (mr t i x)=(a2 t).set i.toNat x:=by
 have h:((a2 t).set i.toNat x).length=2:=by rw [mV]; rfl
 show [((a2 t).set i.toNat x).getD 0 0,((a2 t).set i.toNat x).getD 1 0]=_
 match (a2 t).set i.toNat x,h with
 | [_,_],_=>rfl
theorem qd {k:IntKind} {t y:T2} {i x z:Int} (h:idx (a2 t) i=some z) (hy:some (mr t i x)=some y) (pre post:List Value):
  (pre++(a2 t).map (Value.int k)++post).take (pre.length+i.toNat * 1)++ [.int k x]++(pre++(a2 t).map (Value.int k)++post).drop (pre.length+i.toNat * 1+1)=pre++(a2 y).map (Value.int k)++post:=by
 have hl:=iC h;rw [lS] at hl;cases hy;rw [oq _ _ _ _ (by rw [aG,lS]; omega),oL,List.map_set]
theorem qo {i z:Int} {t:T2} (h:idx (a2 t) i=some z) {p n:Nat} (hn:p+2≤n):Nat.ble (p+i.toNat * 1+1) n=true:=by
 have hl:=iC h;rw [lS] at hl;exact iY (by omega)
theorem OA.nilcs {α:Type} {R:Rp α} {c:Cx} {v:Value} {vs:List Value} {xs:List α} (h:OA R c v vs xs) (nz:xs= []→v= .slice none 0 0):
  (v= .slice none 0 0∧xs.isEmpty=true)∨∃g l k,v= .slice (some g) l k∧xs.isEmpty=false:=by
 obtain ⟨_,h1 | ⟨g,cap,rfl,_⟩,_⟩:=h
 ·exact .inl ⟨h1.1,by rw [h1.2]; rfl⟩
 ·cases xs with
  | nil=>cases nz rfl
  | cons x t=>exact .inr ⟨_,_,_,rfl,rfl⟩
theorem W.regionE {P:Program} {n:Fr} {Q:Exit→(Nat→Value)→World→Prop} (D:List Nat) (K:Cx→Prop) {id:Nat} {l:List Oper} {e:Nat→Value} {c:Cx} (hm:P.follows .mixedOrders=true)
  (h:AC D K P l n Q l.length (List.replicate l.length false) e ⟨c.w.drew,c.A,c.t⟩):W P n (.region id l.toArray true) Q e c.w:=
 wpIn_region_any hm (by
  have:=gw.sound _ _ _ _ h;rw [show (List.replicate l.length false).toArray=Array.replicate l.toArray.size false by simp] at this;exact this)
end Go.Lt
namespace Go.Proofs.YtmncdniojmigeaaGreatDoor
open Go Go.Lt
set_option linter.unusedVariables false
structure aj where
 Kind:Int
 A:Int
 B:Int
 Bytes:List Int
def bq:Rp aj where
 size:=4
 cells:=fun c l x=>∃y1:Value,l= [.int .i64 x.Kind,.int .i64 x.A,.int .i64 x.B,y1]∧Sl (RI .u8) c y1 x.Bytes
 len:=by
  intro c l x h
  obtain ⟨_,rfl,h0⟩:=h
  rfl
 one:=by
  intro c l x h v hv
  obtain ⟨_,rfl,h0⟩:=h
  simp only [aT,bi,et] at hv
  rcases hv with rfl | rfl | rfl | rfl
  ·rfl
  ·rfl
  ·rfl
  ·exact h0.one
 mono:=by
  intro c c2 l x hc h
  obtain ⟨_,rfl,h0⟩:=h
  exact ⟨_,rfl,h0.lw hc⟩
structure af where
 W:Int
 H:Int
 Ops:List aj
def iW:Rp af where
 size:=3
 cells:=fun c l x=>∃y1:Value,l= [.int .i64 x.W,.int .i64 x.H,y1]∧Sl bq c y1 x.Ops
 len:=by
  intro c l x h
  obtain ⟨_,rfl,h0⟩:=h
  rfl
 one:=by
  intro c l x h v hv
  obtain ⟨_,rfl,h0⟩:=h
  simp only [aT,bi,et] at hv
  rcases hv with rfl | rfl | rfl
  ·rfl
  ·rfl
  ·exact h0.one
 mono:=by
  intro c c2 l x hc h
  obtain ⟨_,rfl,h0⟩:=h
  exact ⟨_,rfl,h0.lw hc⟩
def oO (G G':Gm):Prop:=∀g k,G g k≠ []→G' g k=G g k
structure Sto where
 script_Script:List af
def Sto.set_script_Script (s:Sto) (k:Nat) (x:af):Option Sto:=if k < s.script_Script.length then some { s with script_Script:=s.script_Script.set k x} else none
def Sto.add_script_Script (s:Sto) (x:af):Sto:={ s with script_Script:=s.script_Script++ [x]}
def bv (c:Cx) (t:Option Nat) (E:List En) (x:af):Prop:=∃(b:Nat) (y1:Value) (u1:List Value),t=some b∧E= [⟨.pointer (some ⟨b,0,none⟩),24,[.int .i64 x.W,.int .i64 x.H,y1],0⟩,es false bq y1 38 u1 x.Ops]∧OA bq c y1 u1 x.Ops
theorem bv.lw {c c':Cx} (k:c.lw c') (b:Nat) (E:List En) (x:af):bv c (some b) E x→bv c' (some b) E x:=by
 rintro ⟨b,y1,u1,e1,e2,h0⟩;exact ⟨b,y1,u1,e1,e2,h0.lw k⟩
theorem bv.no {c:Cx} (E:List En) (x:af):¬bv c none E x:=by
 rintro ⟨b,y1,u1,e1,_⟩;cases e1
structure Rel (c:Cx) (s:Sto) (G:Gm):Prop where
 script_Script:Rl bv 0 c G s.script_Script
theorem Rel.lw {c c':Cx} {s:Sto} {G:Gm} (h:Rel c s G) (k:c.lw c'):Rel c' s G:=
 ⟨h.script_Script.mono (bv.lw k) bv.no k⟩
theorem Rel.mono {c c':Cx} {s:Sto} {G:Gm} (h:Rel c s G) (k:c.le c'):Rel c' s G:=h.lw k.lw
theorem Rel.m {c c':Cx} {s:Sto} {G:Gm} (h:Rel c s G) (k:c.le c':=by repeat (first | assumption | refine Cx.le.trans ?_ (by assumption))):Rel c' s G:=h.mono k
theorem Rel.open_script_Script {c:Cx} {s:Sto} {G:Gm} {k b:Nat} {x:af} (R:Rel c s G) (hx:s.script_Script[k]? = some x) (ht:c.t 0 k=some b):∃(y1:Value) (u1:List Value),G 0 k= [⟨.pointer (some ⟨b,0,none⟩),24,[.int .i64 x.W,.int .i64 x.H,y1],0⟩,es false bq y1 38 u1 x.Ops]∧OA bq c y1 u1 x.Ops:=by
 obtain ⟨b',y1,u1,e1,e2,h0⟩:=R.script_Script.ob k x hx;rw [ht] at e1;cases e1;exact ⟨y1,u1,e2,h0⟩
theorem Rel.put_script_Script {c:Cx} {s s':Sto} {G:Gm} {F:List En} {k:Nat} {E':List En} {x':af} (O:Own c (eq G 0 k E') F) (R:Rel c s G) (h:s.set_script_Script k x'=some s') (hY:bv c (c.t 0 k) E' x'):
  ∃G',Own c G' F∧Rel c s' G'∧G' 0 k=E'∧∀G0,oO G0 G→G0 0 k= []→oO G0 G':=by
 unfold Sto.set_script_Script at h;split at h
 ·rename_i hk
  cases h;refine ⟨_,O,⟨R.script_Script.set hk hY⟩,ct _ _ _ _,fun G0 h1 h2 g' k' h3=>?_⟩;rw [eH (by rintro ⟨rfl,rfl⟩; exact h3 h2)];exact h1 g' k' h3
 ·cases h
theorem Rel.new_script_Script {c:Cx} {s:Sto} {G:Gm} {F E:List En} {x:af} {b:Nat} (O:Own c G (E++F)) (R:Rel c s G) (hY:∀c',c.le c'→bv c' (some b) E x):
  ∃c' G',(c'.w=c.w∧c'.A=c.A)∧c.le c'∧c'.t 0 s.script_Script.length=some b∧Own c' G' F∧Rel c' (s.add_script_Script x) G'∧G' 0 s.script_Script.length=E∧G 0 s.script_Script.length= []∧oO G G':=by
 have hE:=R.script_Script.no _ (aD _);have hne:E≠ []:=by
  obtain ⟨_,_,_,_,rfl,_⟩:=hY c (Cx.le.refl c);simp
 obtain ⟨c',hw,hle,ht,O'⟩:=Own.newObj (b:=b) O hE hne;have R':=R.mono hle;refine ⟨c',_,hw,hle,ht,O',⟨R'.script_Script.new (by rw [ht]; exact hY c' hle)⟩,ct _ _ _ _,hE,fun g' k' h3=>?_⟩;exact eH (by rintro ⟨rfl,rfl⟩; exact h3 hE)
def Gl (n:List Nat) (c:Cx):Prop:=(∀g,g∈n→∃v,RE 230 87 c v (.sent g))∧∀g g',g∈n→g'∈n→g≠g'→∀a,Im c g 0 (.iface 230 (.pointer (some a)))→Im c g' 0 (.iface 230 (.pointer (some a)))→False
theorem Gl.lw {n:List Nat} {c c':Cx} (h:Gl n c) (k:c.lw c'):Gl n c':=by
 have key:∀g,g∈n→∀u,Im c' g 0 u→Im c g 0 u:=fun g hg u hu=>by
  obtain ⟨v,hv⟩:=h.1 g hg;have h1:=hv.im;have h2:=h1.lw k;have h3:=h2.cell.symm.trans hu.cell;cases h3;exact h1
 exact ⟨fun g hg=>(h.1 g hg).imp fun v hv=>hv.lw k,fun g g' hg hg' hne a h1 h2=>h.2 g g' hg hg' hne a (key g hg _ h1) (key g' hg' _ h2)⟩
theorem Gl.mono {n:List Nat} {c c':Cx} (h:Gl n c) (k:c.le c'):Gl n c':=h.lw k.lw
theorem Gl.m {n:List Nat} {c c':Cx} (h:Gl n c) (k:c.le c':=by repeat (first | assumption | refine Cx.le.trans ?_ (by assumption))):Gl n c':=h.mono k
theorem Gl.le {n m:List Nat} {c:Cx} (h:Gl n c) (k:∀g∈m,g∈n):Gl m c:=⟨fun g hg=>h.1 g (k g hg),fun g g' hg hg'=>h.2 g g' (k g hg) (k g' hg')⟩
theorem Gl.get {n:List Nat} {c:Cx} (h:Gl n c) (g:Nat) (hg:g∈n):∃v,RE 230 87 c v (.sent g):=h.1 g hg
end Go.Proofs.YtmncdniojmigeaaGreatDoor
namespace Go.Proofs.YtmncdniojmigeaaGreatDoor
open Go Go.Lt
set_option maxRecDepth 10000
set_option linter.unusedVariables false
attribute [local irreducible] W WL AC
open Go.RowKit
structure Et (c:Cx):Prop where
 ml:∃m,Im c 9 0 (.int .i64 m)
 fz:Fz c 10
 tb:Lib.TabIs Tryz.prog c.w "internal/strconv.uint64pow10" .u64 Lib.pow10Tab
theorem iK:Tryz.prog.globalNamed "internal/strconv.uint64pow10" = some 10:=by kernel_rfl
theorem mZ {w w':World} (h:w'.heap[10]? = w.heap[10]?) (t:Lib.TabIs Tryz.prog w "internal/strconv.uint64pow10" .u64 Lib.pow10Tab):Lib.TabIs Tryz.prog w' "internal/strconv.uint64pow10" .u64 Lib.pow10Tab:=by
 unfold Lib.TabIs World.var? at t⊢;rw [iK] at t⊢;simp only [ig] at t⊢;rw [h];exact t
theorem Et.mono {c c':Cx} (h:Et c) (k:c.le c'):Et c':=by
 obtain ⟨m,hm⟩:=h.ml;exact ⟨⟨m,hm.mono k⟩,h.fz.mono k,mZ (k.block _ h.fz.lt h.fz.nA) h.tb⟩
theorem Et.m {c c':Cx} (h:Et c) (k:c.le c':=by repeat (first | assumption | refine Cx.le.trans ?_ (by assumption))):Et c':=h.mono k
theorem Own.below {c:Cx} {w':World} {G:Gm} {F:List En} (O:Own c G F) (h:RowKit.Below c.w.heap.size c.w w'):∃c':Cx,c'.w=w'∧c.le c'∧Own c' G F∧∀b o v,c.w.heap.size≤b→w'.cell? ⟨b,o,none⟩=some v→Im c' b o v:=by
 have hbut:c.but (fun _=>False) ⟨w',fun k o=>k < c.w.heap.size∧c.A k o,c.t⟩:=by
  refine ⟨⟨h.os,h.output,h.size,fun k o h1 h2=>⟨bJ (w:=c.w) (a:=⟨k,o,none⟩) (h.block k h1),fun q=>h2 q.2⟩,fun k h1 _=>h.block k h1,fun a h1 _=>by simp only [World.frozen?,h.block _ h1],fun _ _ _ q=>q⟩,rfl,fun k h1 _=>⟨h.block k h1,fun o=>⟨fun q=>q.2,fun q=>⟨h1,q⟩⟩⟩⟩
 refine ⟨_,rfl,hbut.le,O.keep hbut,fun b o v hb hv=>⟨?_,fun q=>by omega,hv⟩⟩;show b < w'.heap.size;rcases bf b w'.heap.size with q | q
 ·exact q
 ·simp only [World.cell?,aQ q] at hv;cases hv
section
variable {P:Program} {c0:Cx} {G:Gm} {F:List En}
theorem ei (O0:Own c0 G F) {f:FuncId} {args:Array Value} {v:Value} (h:Calls P f args c0.w fun e w'=>e= .returned v∧RowKit.Below c0.w.heap.size c0.w w'):
  Calls P f args c0.w (bG c0 fun c v'=>Own c G F∧v'=v):=by
 refine h.mono ?_;rintro e w' ⟨rfl,hb⟩;obtain ⟨c',rfl,h2,h3,_⟩:=Own.below O0 hb;exact ⟨_,c',rfl,rfl,h2,h3,rfl⟩
theorem iG (w:World) (e:TypeId) (s:ByteArray):RowKit.Below w.heap.size w (Lib.bytesWorld w e s):=by
 unfold Lib.bytesWorld;refine RowKit.Below.trans (b:=w.drew.alloc (.cells (Lib.bytesCells w e s) e)) ((eo w.heap.size w).drew.alloc (aD _) _) ?_;refine ⟨rfl,rfl,rfl,?_,fun k hk=>?_⟩
 ·simp [World.freeze]
 ·simp [World.freeze,ja,Nat.ne_of_gt hk]
end
def mkS (l:List UInt8):ByteArray:=⟨l.toArray⟩
def blS (s:ByteArray):List UInt8:=s.data.toList
def gW:Go.Shelf.Ren:=⟨fun | 0=>0 | 1=>1 | 2=>2 | 99=>141 | 103=>97 | 119=>171 | 120=>167 | 129=>147 | 137=>96 | 138=>94 | 143=>95 | 145=>38 | 146=>45 | 151=>156 | 152=>166 | 156=>44 | 160=>98 | 165=>68 | 166=>32 | 169=>34 | 171=>33 | 172=>99 | 173=>79 | 174=>163 | 195=>127 | 197=>128 | 205=>170 | 206=>154 | 210=>130 | 217=>122 | 218=>129 | 219=>91 | 220=>67 | 221=>69 | 224=>124 | 225=>123 | 227=>133 | 228=>155 | 231=>131 | 232=>132 | 233=>134 | 234=>135 | 235=>136 | 236=>137 | 240=>65 | 241=>92 | 243=>66 | 244=>138 | 245=>139 | 246=>90 | 247=>158 | 260=>153 | 266=>151 | 267=>125 | 268=>93 | 271=>157 | 276=>89 | 277=>126 | 279=>159 | 280=>160 | 281=>161 | 282=>162 | 283=>118 | 284=>119 | 285=>120 | 286=>121 | 287=>168 | 314=>152 | 316=>169 | 317=>146 | 318=>148 | 319=>149 | 320=>150 | 321=>172 | 322=>173 | 337=>164 | 338=>165 | 347=>174 | 348=>175 | 349=>176 | 350=>177 | 351=>178 | 352=>179 | 353=>180 | 354=>181 | 355=>182 | 356=>183 | 357=>184 | 358=>185 | 359=>186 | 360=>189 | 361=>190 | 362=>191 | 363=>211 | 364=>208 | 365=>209 | 366=>196 | 367=>231 | n=>n,fun | 0=>0 | 1=>1 | 2=>2 | 3=>3 | 4=>4 | 5=>5 | 6=>6 | 7=>7 | 8=>8 | 9=>9 | 10=>10 | 11=>11 | 12=>12 | 13=>13 | 14=>14 | 15=>15 | 16=>16 | 17=>17 | 18=>18 | 19=>19 | 20=>20 | 21=>21 | 22=>196 | 23=>152 | 24=>150 | 25=>151 | 27=>147 | 28=>75 | 31=>72 | 37=>36 | 40=>168 | 41=>207 | 43=>169 | 46=>112 | 47=>204 | 49=>252 | 51=>202 | 52=>215 | 53=>56 | 54=>179 | 55=>149 | 57=>115 | 59=>67 | 60=>68 | 61=>77 | 63=>208 | 64=>220 | 67=>76 | 69=>223 | 70=>58 | 71=>59 | 72=>60 | 73=>113 | 74=>30 | 75=>31 | 76=>61 | 77=>62 | 80=>64 | 81=>238 | 83=>63 | 84=>134 | 85=>210 | 86=>211 | 103=>184 | 104=>55 | 105=>185 | 106=>186 | 108=>226 | 111=>65 | 113=>114 | 114=>135 | 115=>188 | 116=>189 | 117=>190 | 118=>191 | 119=>216 | 122=>187 | 123=>192 | 124=>193 | 127=>110 | 128=>194 | 131=>118 | 137=>217 | 138=>218 | 139=>219 | 143=>230 | 144=>231 | 145=>232 | 146=>205 | 150=>148 | 151=>206 | 164=>124 | 165=>146 | 166=>183 | 167=>209 | 168=>212 | 169=>213 | 170=>214 | 171=>178 | 172=>180 | 173=>181 | 174=>182 | 175=>221 | 176=>222 | 209=>224 | 210=>225 | 211=>200 | 212=>201 | 213=>203 | 214=>229 | 222=>176 | 232=>227 | 233=>228 | 238=>233 | 239=>234 | 240=>235 | 241=>236 | 242=>237 | 243=>240 | 244=>130 | 245=>241 | 246=>242 | 247=>243 | 248=>244 | 249=>245 | n=>n,fun | 1=>9 | 3=>11 | 4=>12 | 15=>13 | 16=>14 | 17=>10 | 18=>15 | 19=>16 | n=>n⟩
theorem jS:Lays.n103 Tryz.prog gW:=by
 constructor <;> first | kernel_rfl | (intro w; kernel_rfl) | (constructor <;> first | kernel_rfl | (intro w; kernel_rfl))
def gV:Go.Shelf.Ren:=⟨fun | 0=>0 | 1=>1 | 2=>2 | 99=>141 | 103=>97 | 119=>171 | 120=>167 | 129=>147 | 137=>96 | 138=>94 | 143=>95 | 145=>38 | 146=>45 | 151=>156 | 152=>166 | 156=>44 | 160=>98 | 165=>68 | 166=>32 | 169=>34 | 171=>33 | 172=>99 | 173=>79 | 174=>163 | 195=>127 | 197=>128 | 205=>170 | 206=>154 | 210=>130 | 217=>122 | 218=>129 | 219=>91 | 220=>67 | 221=>69 | 224=>124 | 225=>123 | 227=>133 | 228=>155 | 231=>131 | 232=>132 | 233=>134 | 234=>135 | 235=>136 | 236=>137 | 240=>65 | 241=>92 | 243=>66 | 244=>138 | 245=>139 | 246=>90 | 247=>158 | 260=>153 | 266=>151 | 267=>125 | 268=>93 | 271=>157 | 276=>89 | 277=>126 | 279=>159 | 280=>160 | 281=>161 | 282=>162 | 283=>118 | 284=>119 | 285=>120 | 286=>121 | 287=>168 | 314=>152 | 316=>169 | 317=>146 | 318=>148 | 319=>149 | 320=>150 | 321=>172 | 322=>173 | 337=>164 | 338=>165 | 347=>174 | 348=>175 | 349=>176 | 350=>177 | 351=>178 | 352=>179 | 353=>180 | 354=>181 | 355=>182 | 356=>183 | 357=>184 | 358=>185 | 359=>186 | 360=>189 | 361=>190 | 362=>191 | 363=>211 | 364=>208 | 365=>209 | 366=>196 | 367=>231 | n=>n,fun | 0=>0 | 1=>1 | 2=>2 | 3=>3 | 4=>4 | 5=>5 | 6=>6 | 7=>7 | 8=>8 | 9=>9 | 10=>10 | 11=>11 | 12=>12 | 13=>13 | 14=>14 | 15=>15 | 16=>16 | 17=>17 | 18=>18 | 19=>19 | 20=>20 | 21=>21 | 22=>196 | 23=>152 | 24=>150 | 25=>151 | 27=>147 | 28=>75 | 31=>72 | 37=>36 | 40=>168 | 41=>207 | 43=>169 | 46=>112 | 47=>204 | 49=>252 | 51=>202 | 52=>215 | 53=>56 | 54=>179 | 55=>149 | 57=>115 | 59=>67 | 60=>68 | 61=>77 | 63=>208 | 64=>220 | 67=>76 | 69=>223 | 70=>58 | 71=>59 | 72=>60 | 73=>113 | 74=>30 | 75=>31 | 76=>61 | 77=>62 | 80=>64 | 81=>238 | 83=>63 | 84=>134 | 85=>210 | 86=>211 | 103=>184 | 104=>55 | 105=>185 | 106=>186 | 108=>226 | 111=>65 | 113=>114 | 114=>135 | 115=>188 | 116=>189 | 117=>190 | 118=>191 | 119=>216 | 122=>187 | 123=>192 | 124=>193 | 127=>110 | 128=>194 | 131=>118 | 137=>217 | 138=>218 | 139=>219 | 143=>230 | 144=>231 | 145=>232 | 146=>205 | 150=>148 | 151=>206 | 164=>124 | 165=>146 | 166=>183 | 167=>209 | 168=>212 | 169=>213 | 170=>214 | 171=>178 | 172=>180 | 173=>181 | 174=>182 | 175=>221 | 176=>222 | 209=>224 | 210=>225 | 211=>200 | 212=>201 | 213=>203 | 214=>229 | 222=>176 | 232=>227 | 233=>228 | 238=>233 | 239=>234 | 240=>235 | 241=>236 | 242=>237 | 243=>240 | 244=>130 | 245=>241 | 246=>242 | 247=>243 | 248=>244 | 249=>245 | n=>n,fun | 1=>9 | 3=>11 | 4=>12 | 15=>13 | 16=>14 | 17=>10 | 18=>15 | 19=>16 | n=>n⟩
theorem jR:Lays.n137 Tryz.prog gV:=by
 constructor <;> first | kernel_rfl | (intro w; kernel_rfl) | (constructor <;> first | kernel_rfl | (intro w; kernel_rfl))
def la:Go.Shelf.Ren:=⟨fun | 0=>0 | 1=>1 | 2=>2 | 99=>141 | 103=>97 | 119=>171 | 120=>167 | 129=>147 | 137=>96 | 138=>94 | 143=>95 | 145=>38 | 146=>45 | 151=>156 | 152=>166 | 156=>44 | 160=>98 | 165=>68 | 166=>32 | 169=>34 | 171=>33 | 172=>99 | 173=>79 | 174=>163 | 195=>127 | 197=>128 | 205=>170 | 206=>154 | 210=>130 | 217=>122 | 218=>129 | 219=>91 | 220=>67 | 221=>69 | 224=>124 | 225=>123 | 227=>133 | 228=>155 | 231=>131 | 232=>132 | 233=>134 | 234=>135 | 235=>136 | 236=>137 | 240=>65 | 241=>92 | 243=>66 | 244=>138 | 245=>139 | 246=>90 | 247=>158 | 260=>153 | 266=>151 | 267=>125 | 268=>93 | 271=>157 | 276=>89 | 277=>126 | 279=>159 | 280=>160 | 281=>161 | 282=>162 | 283=>118 | 284=>119 | 285=>120 | 286=>121 | 287=>168 | 314=>152 | 316=>169 | 317=>146 | 318=>148 | 319=>149 | 320=>150 | 321=>172 | 322=>173 | 337=>164 | 338=>165 | 347=>174 | 348=>175 | 349=>176 | 350=>177 | 351=>178 | 352=>179 | 353=>180 | 354=>181 | 355=>182 | 356=>183 | 357=>184 | 358=>185 | 359=>186 | 360=>189 | 361=>190 | 362=>191 | 363=>211 | 364=>208 | 365=>209 | 366=>196 | 367=>231 | n=>n,fun | 0=>0 | 1=>1 | 2=>2 | 3=>3 | 4=>4 | 5=>5 | 6=>6 | 7=>7 | 8=>8 | 9=>9 | 10=>10 | 11=>11 | 12=>12 | 13=>13 | 14=>14 | 15=>15 | 16=>16 | 17=>17 | 18=>18 | 19=>19 | 20=>20 | 21=>21 | 22=>196 | 23=>152 | 24=>150 | 25=>151 | 27=>147 | 28=>75 | 31=>72 | 37=>36 | 40=>168 | 41=>207 | 43=>169 | 46=>112 | 47=>204 | 49=>252 | 51=>202 | 52=>215 | 53=>56 | 54=>179 | 55=>149 | 57=>115 | 59=>67 | 60=>68 | 61=>77 | 63=>208 | 64=>220 | 67=>76 | 69=>223 | 70=>58 | 71=>59 | 72=>60 | 73=>113 | 74=>30 | 75=>31 | 76=>61 | 77=>62 | 80=>64 | 81=>238 | 83=>63 | 84=>134 | 85=>210 | 86=>211 | 103=>184 | 104=>55 | 105=>185 | 106=>186 | 108=>226 | 111=>65 | 113=>114 | 114=>135 | 115=>188 | 116=>189 | 117=>190 | 118=>191 | 119=>216 | 122=>187 | 123=>192 | 124=>193 | 127=>110 | 128=>194 | 131=>118 | 137=>217 | 138=>218 | 139=>219 | 143=>230 | 144=>231 | 145=>232 | 146=>205 | 150=>148 | 151=>206 | 164=>124 | 165=>146 | 166=>183 | 167=>209 | 168=>212 | 169=>213 | 170=>214 | 171=>178 | 172=>180 | 173=>181 | 174=>182 | 175=>221 | 176=>222 | 209=>224 | 210=>225 | 211=>200 | 212=>201 | 213=>203 | 214=>229 | 222=>176 | 232=>227 | 233=>228 | 238=>233 | 239=>234 | 240=>235 | 241=>236 | 242=>237 | 243=>240 | 244=>130 | 245=>241 | 246=>242 | 247=>243 | 248=>244 | 249=>245 | n=>n,fun | 1=>9 | 3=>11 | 4=>12 | 15=>13 | 16=>14 | 17=>10 | 18=>15 | 19=>16 | n=>n⟩
theorem ow:Lays.n145 Tryz.prog la:=by
 constructor <;> first | kernel_rfl | (intro w; kernel_rfl) | (constructor <;> first | kernel_rfl | (intro w; kernel_rfl))
def gy:Go.Shelf.Ren:=⟨fun | 0=>0 | 1=>1 | 2=>2 | 99=>141 | 103=>97 | 119=>171 | 120=>167 | 129=>147 | 137=>96 | 138=>94 | 143=>95 | 145=>38 | 146=>45 | 151=>156 | 152=>166 | 156=>44 | 160=>98 | 165=>68 | 166=>32 | 169=>34 | 171=>33 | 172=>99 | 173=>79 | 174=>163 | 195=>127 | 197=>128 | 205=>170 | 206=>154 | 210=>130 | 217=>122 | 218=>129 | 219=>91 | 220=>67 | 221=>69 | 224=>124 | 225=>123 | 227=>133 | 228=>155 | 231=>131 | 232=>132 | 233=>134 | 234=>135 | 235=>136 | 236=>137 | 240=>65 | 241=>92 | 243=>66 | 244=>138 | 245=>139 | 246=>90 | 247=>158 | 260=>153 | 266=>151 | 267=>125 | 268=>93 | 271=>157 | 276=>89 | 277=>126 | 279=>159 | 280=>160 | 281=>161 | 282=>162 | 283=>118 | 284=>119 | 285=>120 | 286=>121 | 287=>168 | 314=>152 | 316=>169 | 317=>146 | 318=>148 | 319=>149 | 320=>150 | 321=>172 | 322=>173 | 337=>164 | 338=>165 | 347=>174 | 348=>175 | 349=>176 | 350=>177 | 351=>178 | 352=>179 | 353=>180 | 354=>181 | 355=>182 | 356=>183 | 357=>184 | 358=>185 | 359=>186 | 360=>189 | 361=>190 | 362=>191 | 363=>211 | 364=>208 | 365=>209 | 366=>196 | 367=>231 | n=>n,fun | 0=>0 | 1=>1 | 2=>2 | 3=>3 | 4=>4 | 5=>5 | 6=>6 | 7=>7 | 8=>8 | 9=>9 | 10=>10 | 11=>11 | 12=>12 | 13=>13 | 14=>14 | 15=>15 | 16=>16 | 17=>17 | 18=>18 | 19=>19 | 20=>20 | 21=>21 | 22=>196 | 23=>152 | 24=>150 | 25=>151 | 27=>147 | 28=>75 | 31=>72 | 37=>36 | 40=>168 | 41=>207 | 43=>169 | 46=>112 | 47=>204 | 49=>252 | 51=>202 | 52=>215 | 53=>56 | 54=>179 | 55=>149 | 57=>115 | 59=>67 | 60=>68 | 61=>77 | 63=>208 | 64=>220 | 67=>76 | 69=>223 | 70=>58 | 71=>59 | 72=>60 | 73=>113 | 74=>30 | 75=>31 | 76=>61 | 77=>62 | 80=>64 | 81=>238 | 83=>63 | 84=>134 | 85=>210 | 86=>211 | 103=>184 | 104=>55 | 105=>185 | 106=>186 | 108=>226 | 111=>65 | 113=>114 | 114=>135 | 115=>188 | 116=>189 | 117=>190 | 118=>191 | 119=>216 | 122=>187 | 123=>192 | 124=>193 | 127=>110 | 128=>194 | 131=>118 | 137=>217 | 138=>218 | 139=>219 | 143=>230 | 144=>231 | 145=>232 | 146=>205 | 150=>148 | 151=>206 | 164=>124 | 165=>146 | 166=>183 | 167=>209 | 168=>212 | 169=>213 | 170=>214 | 171=>178 | 172=>180 | 173=>181 | 174=>182 | 175=>221 | 176=>222 | 209=>224 | 210=>225 | 211=>200 | 212=>201 | 213=>203 | 214=>229 | 222=>176 | 232=>227 | 233=>228 | 238=>233 | 239=>234 | 240=>235 | 241=>236 | 242=>237 | 243=>240 | 244=>130 | 245=>241 | 246=>242 | 247=>243 | 248=>244 | 249=>245 | n=>n,fun | 1=>9 | 3=>11 | 4=>12 | 15=>13 | 16=>14 | 17=>10 | 18=>15 | 19=>16 | n=>n⟩
theorem mH:Lays.n146 Tryz.prog gy:=by
 constructor <;> first | kernel_rfl | (intro w; kernel_rfl) | (constructor <;> first | kernel_rfl | (intro w; kernel_rfl))
def kE:Go.Shelf.Ren:=⟨fun | 0=>0 | 1=>1 | 2=>2 | 99=>141 | 103=>97 | 119=>171 | 120=>167 | 129=>147 | 137=>96 | 138=>94 | 143=>95 | 145=>38 | 146=>45 | 151=>156 | 152=>166 | 156=>44 | 160=>98 | 165=>68 | 166=>32 | 169=>34 | 171=>33 | 172=>99 | 173=>79 | 174=>163 | 195=>127 | 197=>128 | 205=>170 | 206=>154 | 210=>130 | 217=>122 | 218=>129 | 219=>91 | 220=>67 | 221=>69 | 224=>124 | 225=>123 | 227=>133 | 228=>155 | 231=>131 | 232=>132 | 233=>134 | 234=>135 | 235=>136 | 236=>137 | 240=>65 | 241=>92 | 243=>66 | 244=>138 | 245=>139 | 246=>90 | 247=>158 | 260=>153 | 266=>151 | 267=>125 | 268=>93 | 271=>157 | 276=>89 | 277=>126 | 279=>159 | 280=>160 | 281=>161 | 282=>162 | 283=>118 | 284=>119 | 285=>120 | 286=>121 | 287=>168 | 314=>152 | 316=>169 | 317=>146 | 318=>148 | 319=>149 | 320=>150 | 321=>172 | 322=>173 | 337=>164 | 338=>165 | 347=>174 | 348=>175 | 349=>176 | 350=>177 | 351=>178 | 352=>179 | 353=>180 | 354=>181 | 355=>182 | 356=>183 | 357=>184 | 358=>185 | 359=>186 | 360=>189 | 361=>190 | 362=>191 | 363=>211 | 364=>208 | 365=>209 | 366=>196 | 367=>231 | n=>n,fun | 0=>0 | 1=>1 | 2=>2 | 3=>3 | 4=>4 | 5=>5 | 6=>6 | 7=>7 | 8=>8 | 9=>9 | 10=>10 | 11=>11 | 12=>12 | 13=>13 | 14=>14 | 15=>15 | 16=>16 | 17=>17 | 18=>18 | 19=>19 | 20=>20 | 21=>21 | 22=>196 | 23=>152 | 24=>150 | 25=>151 | 27=>147 | 28=>75 | 31=>72 | 37=>36 | 40=>168 | 41=>207 | 43=>169 | 46=>112 | 47=>204 | 49=>252 | 51=>202 | 52=>215 | 53=>56 | 54=>179 | 55=>149 | 57=>115 | 59=>67 | 60=>68 | 61=>77 | 63=>208 | 64=>220 | 67=>76 | 69=>223 | 70=>58 | 71=>59 | 72=>60 | 73=>113 | 74=>30 | 75=>31 | 76=>61 | 77=>62 | 80=>64 | 81=>238 | 83=>63 | 84=>134 | 85=>210 | 86=>211 | 103=>184 | 104=>55 | 105=>185 | 106=>186 | 108=>226 | 111=>65 | 113=>114 | 114=>135 | 115=>188 | 116=>189 | 117=>190 | 118=>191 | 119=>216 | 122=>187 | 123=>192 | 124=>193 | 127=>110 | 128=>194 | 131=>118 | 137=>217 | 138=>218 | 139=>219 | 143=>230 | 144=>231 | 145=>232 | 146=>205 | 150=>148 | 151=>206 | 164=>124 | 165=>146 | 166=>183 | 167=>209 | 168=>212 | 169=>213 | 170=>214 | 171=>178 | 172=>180 | 173=>181 | 174=>182 | 175=>221 | 176=>222 | 209=>224 | 210=>225 | 211=>200 | 212=>201 | 213=>203 | 214=>229 | 222=>176 | 232=>227 | 233=>228 | 238=>233 | 239=>234 | 240=>235 | 241=>236 | 242=>237 | 243=>240 | 244=>130 | 245=>241 | 246=>242 | 247=>243 | 248=>244 | 249=>245 | n=>n,fun | 1=>9 | 3=>11 | 4=>12 | 15=>13 | 16=>14 | 17=>10 | 18=>15 | 19=>16 | n=>n⟩
theorem nq:Lays.n160 Tryz.prog kE:=by
 constructor <;> first | kernel_rfl | (intro w; kernel_rfl) | (constructor <;> first | kernel_rfl | (intro w; kernel_rfl))
def kF:Go.Shelf.Ren:=⟨fun | 0=>0 | 1=>1 | 2=>2 | 99=>141 | 103=>97 | 119=>171 | 120=>167 | 129=>147 | 137=>96 | 138=>94 | 143=>95 | 145=>38 | 146=>45 | 151=>156 | 152=>166 | 156=>44 | 160=>98 | 165=>68 | 166=>32 | 169=>34 | 171=>33 | 172=>99 | 173=>79 | 174=>163 | 195=>127 | 197=>128 | 205=>170 | 206=>154 | 210=>130 | 217=>122 | 218=>129 | 219=>91 | 220=>67 | 221=>69 | 224=>124 | 225=>123 | 227=>133 | 228=>155 | 231=>131 | 232=>132 | 233=>134 | 234=>135 | 235=>136 | 236=>137 | 240=>65 | 241=>92 | 243=>66 | 244=>138 | 245=>139 | 246=>90 | 247=>158 | 260=>153 | 266=>151 | 267=>125 | 268=>93 | 271=>157 | 276=>89 | 277=>126 | 279=>159 | 280=>160 | 281=>161 | 282=>162 | 283=>118 | 284=>119 | 285=>120 | 286=>121 | 287=>168 | 314=>152 | 316=>169 | 317=>146 | 318=>148 | 319=>149 | 320=>150 | 321=>172 | 322=>173 | 337=>164 | 338=>165 | 347=>174 | 348=>175 | 349=>176 | 350=>177 | 351=>178 | 352=>179 | 353=>180 | 354=>181 | 355=>182 | 356=>183 | 357=>184 | 358=>185 | 359=>186 | 360=>189 | 361=>190 | 362=>191 | 363=>211 | 364=>208 | 365=>209 | 366=>196 | 367=>231 | n=>n,fun | 0=>0 | 1=>1 | 2=>2 | 3=>3 | 4=>4 | 5=>5 | 6=>6 | 7=>7 | 8=>8 | 9=>9 | 10=>10 | 11=>11 | 12=>12 | 13=>13 | 14=>14 | 15=>15 | 16=>16 | 17=>17 | 18=>18 | 19=>19 | 20=>20 | 21=>21 | 22=>196 | 23=>152 | 24=>150 | 25=>151 | 27=>147 | 28=>75 | 31=>72 | 37=>36 | 40=>168 | 41=>207 | 43=>169 | 46=>112 | 47=>204 | 49=>252 | 51=>202 | 52=>215 | 53=>56 | 54=>179 | 55=>149 | 57=>115 | 59=>67 | 60=>68 | 61=>77 | 63=>208 | 64=>220 | 67=>76 | 69=>223 | 70=>58 | 71=>59 | 72=>60 | 73=>113 | 74=>30 | 75=>31 | 76=>61 | 77=>62 | 80=>64 | 81=>238 | 83=>63 | 84=>134 | 85=>210 | 86=>211 | 103=>184 | 104=>55 | 105=>185 | 106=>186 | 108=>226 | 111=>65 | 113=>114 | 114=>135 | 115=>188 | 116=>189 | 117=>190 | 118=>191 | 119=>216 | 122=>187 | 123=>192 | 124=>193 | 127=>110 | 128=>194 | 131=>118 | 137=>217 | 138=>218 | 139=>219 | 143=>230 | 144=>231 | 145=>232 | 146=>205 | 150=>148 | 151=>206 | 164=>124 | 165=>146 | 166=>183 | 167=>209 | 168=>212 | 169=>213 | 170=>214 | 171=>178 | 172=>180 | 173=>181 | 174=>182 | 175=>221 | 176=>222 | 209=>224 | 210=>225 | 211=>200 | 212=>201 | 213=>203 | 214=>229 | 222=>176 | 232=>227 | 233=>228 | 238=>233 | 239=>234 | 240=>235 | 241=>236 | 242=>237 | 243=>240 | 244=>130 | 245=>241 | 246=>242 | 247=>243 | 248=>244 | 249=>245 | n=>n,fun | 1=>9 | 3=>11 | 4=>12 | 15=>13 | 16=>14 | 17=>10 | 18=>15 | 19=>16 | n=>n⟩
theorem kZ:LaysM.n171 Tryz.prog kF:=by
 constructor <;> first | kernel_rfl | (intro w; kernel_rfl) | (constructor <;> first | kernel_rfl | (intro w; kernel_rfl))
def kG:Go.Shelf.Ren:=⟨fun | 0=>0 | 1=>1 | 2=>2 | 99=>141 | 103=>97 | 119=>171 | 120=>167 | 129=>147 | 137=>96 | 138=>94 | 143=>95 | 145=>38 | 146=>45 | 151=>156 | 152=>166 | 156=>44 | 160=>98 | 165=>68 | 166=>32 | 169=>34 | 171=>33 | 172=>99 | 173=>79 | 174=>163 | 195=>127 | 197=>128 | 205=>170 | 206=>154 | 210=>130 | 217=>122 | 218=>129 | 219=>91 | 220=>67 | 221=>69 | 224=>124 | 225=>123 | 227=>133 | 228=>155 | 231=>131 | 232=>132 | 233=>134 | 234=>135 | 235=>136 | 236=>137 | 240=>65 | 241=>92 | 243=>66 | 244=>138 | 245=>139 | 246=>90 | 247=>158 | 260=>153 | 266=>151 | 267=>125 | 268=>93 | 271=>157 | 276=>89 | 277=>126 | 279=>159 | 280=>160 | 281=>161 | 282=>162 | 283=>118 | 284=>119 | 285=>120 | 286=>121 | 287=>168 | 314=>152 | 316=>169 | 317=>146 | 318=>148 | 319=>149 | 320=>150 | 321=>172 | 322=>173 | 337=>164 | 338=>165 | 347=>174 | 348=>175 | 349=>176 | 350=>177 | 351=>178 | 352=>179 | 353=>180 | 354=>181 | 355=>182 | 356=>183 | 357=>184 | 358=>185 | 359=>186 | 360=>189 | 361=>190 | 362=>191 | 363=>211 | 364=>208 | 365=>209 | 366=>196 | 367=>231 | n=>n,fun | 0=>0 | 1=>1 | 2=>2 | 3=>3 | 4=>4 | 5=>5 | 6=>6 | 7=>7 | 8=>8 | 9=>9 | 10=>10 | 11=>11 | 12=>12 | 13=>13 | 14=>14 | 15=>15 | 16=>16 | 17=>17 | 18=>18 | 19=>19 | 20=>20 | 21=>21 | 22=>196 | 23=>152 | 24=>150 | 25=>151 | 27=>147 | 28=>75 | 31=>72 | 37=>36 | 40=>168 | 41=>207 | 43=>169 | 46=>112 | 47=>204 | 49=>252 | 51=>202 | 52=>215 | 53=>56 | 54=>179 | 55=>149 | 57=>115 | 59=>67 | 60=>68 | 61=>77 | 63=>208 | 64=>220 | 67=>76 | 69=>223 | 70=>58 | 71=>59 | 72=>60 | 73=>113 | 74=>30 | 75=>31 | 76=>61 | 77=>62 | 80=>64 | 81=>238 | 83=>63 | 84=>134 | 85=>210 | 86=>211 | 103=>184 | 104=>55 | 105=>185 | 106=>186 | 108=>226 | 111=>65 | 113=>114 | 114=>135 | 115=>188 | 116=>189 | 117=>190 | 118=>191 | 119=>216 | 122=>187 | 123=>192 | 124=>193 | 127=>110 | 128=>194 | 131=>118 | 137=>217 | 138=>218 | 139=>219 | 143=>230 | 144=>231 | 145=>232 | 146=>205 | 150=>148 | 151=>206 | 164=>124 | 165=>146 | 166=>183 | 167=>209 | 168=>212 | 169=>213 | 170=>214 | 171=>178 | 172=>180 | 173=>181 | 174=>182 | 175=>221 | 176=>222 | 209=>224 | 210=>225 | 211=>200 | 212=>201 | 213=>203 | 214=>229 | 222=>176 | 232=>227 | 233=>228 | 238=>233 | 239=>234 | 240=>235 | 241=>236 | 242=>237 | 243=>240 | 244=>130 | 245=>241 | 246=>242 | 247=>243 | 248=>244 | 249=>245 | n=>n,fun | 1=>9 | 3=>11 | 4=>12 | 15=>13 | 16=>14 | 17=>10 | 18=>15 | 19=>16 | n=>n⟩
theorem ns:Lays.n172 Tryz.prog kG:=by
 constructor <;> first | kernel_rfl | (intro w; kernel_rfl) | (constructor <;> first | kernel_rfl | (intro w; kernel_rfl))
def gU:Go.Shelf.Ren:=⟨fun | 0=>0 | 1=>1 | 2=>2 | 99=>141 | 103=>97 | 119=>171 | 120=>167 | 129=>147 | 137=>96 | 138=>94 | 143=>95 | 145=>38 | 146=>45 | 151=>156 | 152=>166 | 156=>44 | 160=>98 | 165=>68 | 166=>32 | 169=>34 | 171=>33 | 172=>99 | 173=>79 | 174=>163 | 195=>127 | 197=>128 | 205=>170 | 206=>154 | 210=>130 | 217=>122 | 218=>129 | 219=>91 | 220=>67 | 221=>69 | 224=>124 | 225=>123 | 227=>133 | 228=>155 | 231=>131 | 232=>132 | 233=>134 | 234=>135 | 235=>136 | 236=>137 | 240=>65 | 241=>92 | 243=>66 | 244=>138 | 245=>139 | 246=>90 | 247=>158 | 260=>153 | 266=>151 | 267=>125 | 268=>93 | 271=>157 | 276=>89 | 277=>126 | 279=>159 | 280=>160 | 281=>161 | 282=>162 | 283=>118 | 284=>119 | 285=>120 | 286=>121 | 287=>168 | 314=>152 | 316=>169 | 317=>146 | 318=>148 | 319=>149 | 320=>150 | 321=>172 | 322=>173 | 337=>164 | 338=>165 | 347=>174 | 348=>175 | 349=>176 | 350=>177 | 351=>178 | 352=>179 | 353=>180 | 354=>181 | 355=>182 | 356=>183 | 357=>184 | 358=>185 | 359=>186 | 360=>189 | 361=>190 | 362=>191 | 363=>211 | 364=>208 | 365=>209 | 366=>196 | 367=>231 | n=>n,fun | 0=>0 | 1=>1 | 2=>2 | 3=>3 | 4=>4 | 5=>5 | 6=>6 | 7=>7 | 8=>8 | 9=>9 | 10=>10 | 11=>11 | 12=>12 | 13=>13 | 14=>14 | 15=>15 | 16=>16 | 17=>17 | 18=>18 | 19=>19 | 20=>20 | 21=>21 | 22=>196 | 23=>152 | 24=>150 | 25=>151 | 27=>147 | 28=>75 | 31=>72 | 37=>36 | 40=>168 | 41=>207 | 43=>169 | 46=>112 | 47=>204 | 49=>252 | 51=>202 | 52=>215 | 53=>56 | 54=>179 | 55=>149 | 57=>115 | 59=>67 | 60=>68 | 61=>77 | 63=>208 | 64=>220 | 67=>76 | 69=>223 | 70=>58 | 71=>59 | 72=>60 | 73=>113 | 74=>30 | 75=>31 | 76=>61 | 77=>62 | 80=>64 | 81=>238 | 83=>63 | 84=>134 | 85=>210 | 86=>211 | 103=>184 | 104=>55 | 105=>185 | 106=>186 | 108=>226 | 111=>65 | 113=>114 | 114=>135 | 115=>188 | 116=>189 | 117=>190 | 118=>191 | 119=>216 | 122=>187 | 123=>192 | 124=>193 | 127=>110 | 128=>194 | 131=>118 | 137=>217 | 138=>218 | 139=>219 | 143=>230 | 144=>231 | 145=>232 | 146=>205 | 150=>148 | 151=>206 | 164=>124 | 165=>146 | 166=>183 | 167=>209 | 168=>212 | 169=>213 | 170=>214 | 171=>178 | 172=>180 | 173=>181 | 174=>182 | 175=>221 | 176=>222 | 209=>224 | 210=>225 | 211=>200 | 212=>201 | 213=>203 | 214=>229 | 222=>176 | 232=>227 | 233=>228 | 238=>233 | 239=>234 | 240=>235 | 241=>236 | 242=>237 | 243=>240 | 244=>130 | 245=>241 | 246=>242 | 247=>243 | 248=>244 | 249=>245 | n=>n,fun | 1=>9 | 3=>11 | 4=>12 | 15=>13 | 16=>14 | 17=>10 | 18=>15 | 19=>16 | n=>n⟩
theorem kY:Lays.n156 Tryz.prog gU:=by
 constructor <;> first | kernel_rfl | (intro w; kernel_rfl) | (constructor <;> first | kernel_rfl | (intro w; kernel_rfl))
theorem jq:Go.Proofs.Builder.Extra Tryz.prog gU:=by
 constructor <;> first | kernel_rfl | (intro w; kernel_rfl) | decide | (constructor <;> kernel_rfl)
def cw (p0 p1:ByteArray):Option (ByteArray×Bool):=some (mkS (Lib.trimPrefix (blS p0) (blS p1)),Lib.hasPrefix (blS p0) (blS p1))
def bE (p0:ByteArray) (p1:Int):Option Int:=some (Lib.indexByte (blS p0) p1.toNat.toUInt8)
def cZ (p0 p1:ByteArray):Option ByteArray:=if p0.size≤9223372036854775807∧p1.size < 4294967281∧(blS p1).all (fun b=>decide (b.toNat < 128))=true then some (mkS (Lib.trimS (blS p0) (blS p1))) else none
def ck (p0 p1:ByteArray):Option (ByteArray×ByteArray×Bool):=if p0.size < 4294967281 then some (mkS (Lib.cut (blS p0) (blS p1)).1,mkS (Lib.cut (blS p0) (blS p1)).2.1,(Lib.cut (blS p0) (blS p1)).2.2) else none
def cJ (p0 p1:ByteArray):Option (List ByteArray):=if p0.size < 4294967281∧1≤p1.size then some (Lib.splitB p1 0 (Lib.countB p0 p1) p0) else none
def bT (p0:Int):Option ByteArray:=if -9223372036854775808≤p0∧p0≤9223372036854775807 then some (mkS (Lib.itoa p0)) else none
def dO (p0:ByteArray):Option (Int×Er):=if p0.size≤18 then (Lib.atoi (blS p0)).map fun n=>(n,Er.nil) else none
def dN (p0:List ByteArray) (p1:ByteArray):Option ByteArray:=if p0.length≤140737488355328∧(Lib.join (p0.map blS) (blS p1)).length≤140737488355328 then some (mkS (Lib.join (p0.map blS) (blS p1))) else none
section
variable {c0:Cx} {G:Gm} {F:List En}
abbrev eg:= @Tryz.underlying22
abbrev u_3:= @Tryz.underlying3
abbrev jd:= @Tryz.underlying31
abbrev dU:= @Tryz.underlying36
abbrev u_5:= @Tryz.underlying5
abbrev fv:= @Tryz.underlying72
abbrev mY:= @Tryz.underlying75
abbrev u_9:= @Tryz.underlying9
theorem gv (O0:Own c0 G F) (p0 p1:ByteArray) {r:ByteArray×Bool} (H:cw p0 p1=some r):
  Calls Tryz.prog 97 #[.string p0,.string p1] c0.w (bG c0 fun c v=>Own c G F∧v= .tuple #[.string r.1,.bool r.2]):=by
 cases H
 refine ei O0 ((Go.Proofs.Any.strings_CutPrefix jS p0 p1 c0.w).mono ?_)
 rintro e w' ⟨rfl,rfl⟩
 exact ⟨rfl,eo _ _⟩
theorem eO (O0:Own c0 G F) (p0:ByteArray) (p1:Int) {r:Int} (H:bE p0 p1=some r):
  Calls Tryz.prog 96 #[.string p0,.int .u8 p1] c0.w (bG c0 fun c v=>Own c G F∧v= .int .i64 r):=by
 cases H
 refine ei O0 ((Go.Proofs.Any.strings_IndexByte jR p0 p1 c0.w).mono ?_)
 rintro e w' ⟨rfl,rfl⟩
 exact ⟨rfl,eo _ _⟩
theorem gf (O0:Own c0 G F) (hT:Et c0) (p0 p1:ByteArray) {r:ByteArray} (H:cZ p0 p1=some r):
  Calls Tryz.prog 98 #[.string p0,.string p1] c0.w (bG c0 fun c v=>Own c G F∧v= .string r):=by
 unfold cZ at H
 split at H
 ·rename_i h
  cases H
  exact ei O0 (Go.Proofs.Any.strings_Trim_laid nq (by kernel_rfl) p0 p1 c0.w h.1 h.2.1 (Go.Proofs.ascii_of_all h.2.2))
 ·cases H
theorem jW (O0:Own c0 G F) (hT:Et c0) (p0 p1:ByteArray) {r:ByteArray×ByteArray×Bool} (H:ck p0 p1=some r):
  Calls Tryz.prog 38 #[.string p0,.string p1] c0.w (bG c0 fun c v=>Own c G F∧v= .tuple #[.string r.1,.string r.2.1,.bool r.2.2]):=by
 unfold ck at H
 split at H
 ·rename_i h
  cases H
  obtain ⟨m,hm⟩:=hT.ml
  refine ei O0 ((Go.Proofs.Any.strings_Cut ow p0 p1 m c0.w h hm.cell).mono ?_)
  rintro e w' ⟨rfl,n,rfl⟩
  exact ⟨rfl,⟨rfl,rfl,rfl,aD _,fun _ _=>rfl⟩⟩
 ·cases H
theorem fR (O0:Own c0 G F) (hT:Et c0) (p0 p1:ByteArray) {r:List ByteArray} (H:cJ p0 p1=some r):
  Calls Tryz.prog 45 #[.string p0,.string p1] c0.w (bG c0 fun c v=>∃y1:Value,Own c G F∧v=y1∧Sl RS c y1 r):=by
 unfold cJ at H
 split at H
 ·rename_i h
  cases H
  obtain ⟨m,hm⟩:=hT.ml
  have hlen:=Lib.splitB_all p1 h.2 0 _ p0 rfl
  have hle:=Lib.countB_le p1 h.2 p0.size p0 (aD _)
  refine (Go.Proofs.Any.strings_Split mH (by kernel_rfl) p0 p1 m c0.w h.1 hm.cell h.2).mono ?_
  rintro e w' ⟨rfl,rfl⟩
  obtain ⟨c',e1,e2,e3,e4⟩:=Own.below O0 ((eo _ c0.w).alloc (aD _) (.cells ((Lib.splitB p1 0 (Lib.countB p0 p1) p0).map Value.string).toArray (gy.t 9)))
  refine ⟨_,c',rfl,e1.symm,e2,_,e3,rfl,_,_,by rw [hlen],by rw [hlen]; exact aD _,by unfold maxLen; omega,fun i x hx=>⟨_,_,[.string x],rfl,rfl,fun j u hu=>?_⟩⟩
  cases j with
  | succ j=>simp at hu
  | zero=>
   simp only [aA,az] at hu
   subst hu
   refine e4 _ _ _ (aD _) ?_
   rw [jF _ _ _ _ _ _ (ge c0.w _),bQ,ep]
   rw [show 0+i * RS.size+0=i by show 0+i * 1+0=i; omega,hx]
   rfl
 ·cases H
theorem jH (O0:Own c0 G F) (hT:Et c0) (p0:Int) {r:ByteArray} (H:bT p0=some r):
  Calls Tryz.prog 33 #[.int .i64 p0] c0.w (bG c0 fun c v=>Own c G F∧v= .string r):=by
 unfold bT at H
 split at H
 ·rename_i h
  cases H
  refine ei O0 ((Go.Proofs.Any.strconv_Itoa kZ p0 h.1 h.2 c0.w hT.tb).mono ?_)
  rintro e w' ⟨rfl,k,os,rfl⟩
  refine ⟨rfl,⟨rfl,rfl,rfl,?_,fun k hk=>?_⟩⟩
  ·simp
  ·simp [Go.Sort.grow,World.drewN,pw,hk]
 ·cases H
theorem jI (O0:Own c0 G F) (hT:Et c0) (p0:ByteArray) {r:Int×Er} (H:dO p0=some r): Calls Tryz.prog 99 #[.string p0] c0.w (bG c0 fun c v=>∃y1:Value,Own c G F∧v= .tuple #[.int .i64 r.1,y1]∧RE 230 87 c y1 r.2):=by
 unfold dO at H;split at H
 ·rename_i h;obtain ⟨n,hn,rfl⟩:=Option.map_eq_some_iff.1 H;refine (ei O0 (v:= .tuple #[.int .i64 n,.nilIface]) ((Go.Proofs.Any.strconv_Atoi ns p0 n h hn c0.w).mono ?_)).mono ?_
  ·rintro e w' ⟨rfl,t,rfl⟩;exact ⟨rfl,iG _ _ _⟩
  ·rintro e w' ⟨v,c,h1,h2,h3,h4,h5⟩;exact ⟨v,c,h1,h2,h3,.nilIface,h4,h5,rfl⟩
 ·cases H
theorem jG (O0:Own c0 G F) (hT:Et c0) {v1:Value} (p0:List ByteArray) (p1:ByteArray) (h1:Sl RS c0 v1 p0) {r:ByteArray} (H:dN p0 p1=some r):
  Calls Tryz.prog 44 #[v1,.string p1] c0.w (bG c0 fun c v=>Own c G F∧v= .string r):=by
 unfold dN at H
 split at H
 ·rename_i h
  cases H
  obtain ⟨a,cap,rfl,g1,g2,g4⟩:=h1
  cases p0 with
  | nil=>
   refine ei O0 ((Go.Proofs.Any.strings_Join_none kY jq a cap p1 c0.w).mono ?_)
   rintro e w' ⟨rfl,rfl⟩
   exact ⟨rfl,eo _ _⟩
  | cons x t=>
   obtain ⟨b,off,_,rfl,_,_⟩:=g4 0 x rfl
   refine ei O0 (Go.Proofs.Any.strings_Join kY jq b off cap (x :: t) p1 c0.w (fun i y hy=>?_) ?_ h.1 g1 h.2)
   ·obtain ⟨b',off',l,e,hl,hc⟩:=g4 i y hy
    cases e
    have:=(hc 0 _ (by rw [show l= [.string y] from hl]; rfl)).cell
    rwa [show off+i * RS.size+0=off+i by show off+i * 1+0=off+i; omega] at this
   ·obtain ⟨b',off',l,e,hl,hc⟩:=g4 0 x rfl
    cases e
    exact (hc 0 _ (by rw [show l= [.string x] from hl]; rfl)).lt
 ·cases H
end
end Go.Proofs.YtmncdniojmigeaaGreatDoor
namespace Go.Proofs.YtmncdniojmigeaaGreatDoor
open Go Go.Lt
set_option maxRecDepth 10000
set_option linter.unusedVariables false
attribute [local irreducible] W WL AC
def em (p0:Int) (p1:Er):Option Er:=some (.fault p0 p1)
theorem gj {c0:Cx} {G:Gm} {F:List En} {v2:Value} (O0:Own c0 G F) (p0:Int) (p1:Er) (h1:RE 230 87 c0 v2 p1) {r:Er} (H:em p0 p1=some r): Calls Tryz.prog 39 #[.int .i64 p0,v2] c0.w (bG c0 fun c v=>∃y1:Value,Own c G F∧v=y1∧RE 230 87 c y1 r):=by
 obtain rfl:=ao H;refine enter (l:=[.int .i64 p0,v2]) Tryz.func39 rfl rfl rfl ?_;refine W.seq ?_;refine W.region ?_;refine WL.val0 (v:= .nilIface) rfl (by kernel_rfl) ?_;refine WL.nil ?_;refine nrm ?_;refine W.seq ?_;refine W.region ?_;refine WL.val0 (v:= .int .i64 p0) rfl (by kernel_rfl) ?_;refine WL.val0 (v:=v2) rfl (by kernel_rfl) ?_;refine WL.val0 (v:= .agg #[.int .i64 p0,v2]) rfl (by rcases h1.cs3 with rfl | ⟨t,a,rfl⟩ <;> kernel_rfl) ?_;refine WL.mem rfl (Own.bx (T:=91) (vs:=[.int .i64 p0,v2]) O0 (by kernel_rfl)) ?_;rintro v5 c1 l1 ⟨b,rfl,O1,hm⟩;refine WL.val0 (v:= .iface 87 (.pointer (some ⟨b,0,none⟩))) rfl (by kernel_rfl) ?_;refine WL.val0 (v:= .iface 87 (.pointer (some ⟨b,0,none⟩))) rfl (by kernel_rfl) ?_;refine WL.nil ?_;refine nrm ?_;refine W.ret ?_;exact ot (v:= .iface 87 (.pointer (some ⟨b,0,none⟩))) rfl (by kernel_rfl) ⟨_,c1,rfl,rfl,l1,_,O1,rfl,_,_,rfl,hm 0 _ rfl,hm 1 _ rfl,h1.mono l1⟩
end Go.Proofs.YtmncdniojmigeaaGreatDoor
namespace Go.Proofs.YtmncdniojmigeaaGreatDoor
open Go Go.Lt
set_option maxRecDepth 10000
set_option linter.unusedVariables false
attribute [local irreducible] W WL AC
open Go.RowKit Go.Extern.Stop Go.Stop Go.Extern
theorem hH (t:Addr) (w:World):(ReflectliteValue.unpack (.iface 89 (.pointer (some t)))).run Tryz.prog w
  = .ok (.agg #[.pointer (some ⟨17,89,none⟩),.pointer (some ⟨w.heap.size,0,none⟩),.int .u64 150]) (w.alloc (.cells #[.pointer (some t)] 89)):=by kernel_rfl
theorem kl (a:Addr) (w:World):(ReflectliteValue.methodAny (ReflectliteValue.valueError "reflectlite.Value.Type" 0) (fun t _ _ _=>ReflectliteType.toType t) #[.agg #[.pointer (some ⟨17,89,none⟩),.pointer (some a),.int .u64 150]]).run Tryz.prog w
  = .ok (.iface 154 (.agg #[.pointer (some ⟨17,89,none⟩)])) w:=by kernel_rfl
theorem gE (h:Value) (w:World):(Go.method 360 154 (.agg #[h]) "Kind").run Tryz.prog w= .ok (188,h) w:=by kernel_rfl
theorem km (w:World):((ReflectliteType.abiMethod fun t=>(fun a:Nat=>Value.int IntKind.u8 (a:Int)) <$> Rtype.kind t) #[.pointer (some ⟨17,89,none⟩)]).run Tryz.prog w= .ok (.int .u8 22) w:=by kernel_rfl
theorem kn (w:World):((ReflectliteType.abiMethod fun t=>(fun a:Nat=>Value.int IntKind.u8 (a:Int)) <$> Rtype.kind t) #[.pointer (some ⟨17,87,none⟩)]).run Tryz.prog w= .ok (.int .u8 22) w:=by kernel_rfl
theorem nT (z:Sem Value) (f:TypeId→Addr→Nat→Nat→Sem Value) (v:Value):
  ReflectliteValue.method z f #[v]=(do match ←ReflectliteValue.parts v with | none=>z | some (t,a,fl)=>f t a fl (fl % 32)):=rfl
theorem jJ (a:Addr) (w:World):(ReflectliteValue.parts (.agg #[.pointer (some ⟨17,89,none⟩),.pointer (some a),.int .u64 150])).run Tryz.prog w= .ok (some (89,a,150)) w:=by kernel_rfl
theorem jK (a p:Addr) (W:World) (ha:W.cell? a=some (.pointer (some p))):
  (ReflectliteValue.method (ReflectliteValue.valueError "reflectlite.Value.IsNil" 0) ReflectliteValue.isNil #[.agg #[.pointer (some ⟨17,89,none⟩),.pointer (some a),.int .u64 150]]).run Tryz.prog W= .ok (.bool false) W:=by
 rw [nT];simp only [fr,jJ,Result.andThen];simp [ReflectliteValue.isNil,loadVar,isAgg,underlying,Tryz.underlying89,ha,Result.andThen]
theorem gF (h:Value) (w:World):(Go.method 360 154 (.agg #[h]) "Elem").run Tryz.prog w= .ok (200,.agg #[h]) w:=by kernel_rfl
theorem eP (h:Value) (w:World):(Go.method 360 154 (.agg #[h]) "Implements").run Tryz.prog w= .ok (201,.agg #[h]) w:=by kernel_rfl
theorem eG (h:Value) (w:World):(Go.method 360 154 (.agg #[h]) "AssignableTo").run Tryz.prog w= .ok (198,.agg #[h]) w:=by kernel_rfl
theorem ko (w:World):(ReflectliteType.method ReflectliteType.elem #[.agg #[.pointer (some ⟨17,89,none⟩)]]).run Tryz.prog w= .ok (.iface 154 (.agg #[.pointer (some ⟨17,87,none⟩)])) w:=by kernel_rfl
theorem fS (w:World):(ReflectliteType.relation "Implements" ReflectliteType.implements_ #[.agg #[.pointer (some ⟨17,87,none⟩)],.iface 154 (.agg #[.pointer (some ⟨17,31,none⟩)])]).run Tryz.prog w= .ok (.bool true) w:=by kernel_rfl
theorem lm (v:Value) (w:World):(ReflectliteType.typeOf #[.iface 87 v]).run Tryz.prog w= .ok (.iface 154 (.agg #[.pointer (some ⟨17,87,none⟩)])) w:=by kernel_rfl
theorem iV (w:World):(ReflectliteType.relation "AssignableTo" ReflectliteType.assignableTo #[.agg #[.pointer (some ⟨17,87,none⟩)],.iface 154 (.agg #[.pointer (some ⟨17,87,none⟩)])]).run Tryz.prog w= .ok (.bool true) w:=by kernel_rfl
theorem kP (e:Addr) (w:World):(ReflectliteValue.unpack (.iface 87 (.pointer (some e)))).run Tryz.prog w
  = .ok (.agg #[.pointer (some ⟨17,87,none⟩),.pointer (some ⟨w.heap.size,0,none⟩),.int .u64 150]) (w.alloc (.cells #[.pointer (some e)] 87)):=by kernel_rfl
theorem lq (w:World):(Rtype.elem? 89).run Tryz.prog w= .ok (some 87) w:=by kernel_rfl
theorem oH (p:Addr) (w:World):(ReflectliteValue.mk 87 p ReflectliteValue.flagAddr).run Tryz.prog w= .ok (.agg #[.pointer (some ⟨17,87,none⟩),.pointer (some p),.int .u64 406]) w:=by kernel_rfl
theorem lP (a p:Addr) (W:World) (ha:W.cell? a=some (.pointer (some p))):
  (ReflectliteValue.method (ReflectliteValue.valueError "reflectlite.Value.Elem" 0) ReflectliteValue.elem #[.agg #[.pointer (some ⟨17,89,none⟩),.pointer (some a),.int .u64 150]]).run Tryz.prog W
   = .ok (.agg #[.pointer (some ⟨17,87,none⟩),.pointer (some p),.int .u64 406]) W:=by
 rw [nT];simp only [fr,jJ,Result.andThen];simp [ReflectliteValue.elem,loadVar,isAgg,underlying,Tryz.underlying89,ha,Result.andThen,lq,oH]
theorem pn (v x:Value):ReflectliteValue.set #[v,x]=(do
  let (some (dst,a,fl),some (src,b,_)):=(←ReflectliteValue.parts v,←ReflectliteValue.parts x)
   | unsupported (.noEntry "extern/(internal/reflectlite.Value).Set.zeroValue")
  if fl / ReflectliteValue.flagAddr % 2==0 then unsupported (.noEntry "extern/(internal/reflectlite.Value).Set.unaddressable")
  let val ←loadVar src b
  if ←Rtype.directlyAssignable dst src then storeVar dst a val
  else if ←Rtype.implements dst src then
   if (←Rtype.kind src)==20 then
    match val with
    | .nilIface=>unsupported (.noEntry "extern/reflectlite: a nil value of one interface type handed on as a value of another")
    | _=>storeVar dst a val
   else storeVar dst a (.iface src val)
  else panicString ("reflectlite.Set: value of type " ++(←Rtype.spelt src)++ " is not assignable to type " ++(←Rtype.spelt dst))
  pure (.tuple #[])):=rfl
theorem lo (a:Addr) (w:World):(ReflectliteValue.parts (.agg #[.pointer (some ⟨17,87,none⟩),.pointer (some a),.int .u64 406])).run Tryz.prog w= .ok (some (87,a,406)) w:=by kernel_rfl
theorem lO (a:Addr) (w:World):(ReflectliteValue.parts (.agg #[.pointer (some ⟨17,87,none⟩),.pointer (some a),.int .u64 150])).run Tryz.prog w= .ok (some (87,a,150)) w:=by kernel_rfl
theorem lr (w:World):(Rtype.directlyAssignable 87 87).run Tryz.prog w= .ok true w:=by kernel_rfl
theorem nS (ta b e:Addr) (old:Value) (W:World) (hb:W.cell? b=some (.pointer (some e))) (ht:W.cell? ta=some old) (hf:W.frozen? ta=false):
  (ReflectliteValue.set #[.agg #[.pointer (some ⟨17,87,none⟩),.pointer (some ta),.int .u64 406],.agg #[.pointer (some ⟨17,87,none⟩),.pointer (some b),.int .u64 150]]).run Tryz.prog W
   = .ok (.tuple #[]) (W.setCell ta (.pointer (some e))):=by
 rw [pn];simp only [fr,lo,lO,Result.andThen];simp [ReflectliteValue.flagAddr,loadVar,isAgg,underlying,Tryz.underlying87,hb,Result.andThen,lr,storeVar,Value.cells,storeCells,Addr.add];rw [run_store Tryz.prog W ta _ _ (by rfl)];simp [ht,hf]
set_option maxHeartbeats 4000000 in
theorem po (e t:Addr) (old:Value) (w:World) (hg:w.cell? ⟨8,0,none⟩=some (.iface 154 (.agg #[.pointer (some ⟨17,31,none⟩)]))) (ht0:w.cell? t=some old) (hf0:w.frozen? t=false):
  Calls Tryz.prog 53 #[.iface 87 (.pointer (some e)),.iface 89 (.pointer (some t))] w fun ev w'=>ev= .returned (.bool true)∧w'=((((w.alloc (.cells #[.pointer (some t)] 89)).alloc (.cells #[.pointer (some ⟨17,89,none⟩),.pointer (some ⟨w.heap.size,0,none⟩),.int .u64 150] 127)).alloc (.cells #[.pointer (some ⟨17,89,none⟩),.pointer (some ⟨w.heap.size,0,none⟩),.int .u64 150] 127)).alloc (.cells #[.pointer (some e)] 87)).setCell t (.pointer (some e)):=by
 have h6:= @aq Tryz.prog 75 _ (fun args=>ReflectliteValue.unpack (args.getD 0 (.tuple #[]))) Tryz.func75 (by kernel_rfl) (by kernel_rfl) (by kernel_rfl) (by kernel_rfl);have h7:= @aq Tryz.prog 76 _ (ReflectliteValue.methodAny (ReflectliteValue.valueError "reflectlite.Value.Type" 0) (fun t _ _ _=>ReflectliteType.toType t)) Tryz.func76 (by kernel_rfl) (by kernel_rfl) (by kernel_rfl) (by kernel_rfl);have h8:= @aq Tryz.prog 77 _ (ReflectliteValue.method (ReflectliteValue.valueError "reflectlite.Value.IsNil" 0) ReflectliteValue.isNil) Tryz.func77 (by kernel_rfl) (by kernel_rfl) (by kernel_rfl) (by kernel_rfl);have h27:= @aq Tryz.prog 188 _ (ReflectliteType.abiMethod fun t=>do pure (.int .u8 (←Rtype.kind t))) Tryz.func188 (by kernel_rfl) (by kernel_rfl) (by kernel_rfl) (by kernel_rfl);have h37:= @aq Tryz.prog 200 _ (ReflectliteType.method ReflectliteType.elem) Tryz.func200 (by kernel_rfl) (by kernel_rfl) (by kernel_rfl) (by kernel_rfl);have h38:= @aq Tryz.prog 201 _ (ReflectliteType.relation "Implements" ReflectliteType.implements_) Tryz.func201 (by kernel_rfl) (by kernel_rfl) (by kernel_rfl) (by kernel_rfl);have h10:= @aq Tryz.prog 73 _ ReflectliteType.typeOf Tryz.func73 (by kernel_rfl) (by kernel_rfl) (by kernel_rfl) (by kernel_rfl);have h35:= @aq Tryz.prog 198 _ (ReflectliteType.relation "AssignableTo" ReflectliteType.assignableTo) Tryz.func198 (by kernel_rfl) (by kernel_rfl) (by kernel_rfl) (by kernel_rfl);have h11:= @aq Tryz.prog 100 _ (ReflectliteValue.method (ReflectliteValue.valueError "reflectlite.Value.Elem" 0) ReflectliteValue.elem) Tryz.func100 (by kernel_rfl) (by kernel_rfl) (by kernel_rfl) (by kernel_rfl);have h12:= @aq Tryz.prog 101 _ ReflectliteValue.set Tryz.func101 (by kernel_rfl) (by kernel_rfl) (by kernel_rfl) (by kernel_rfl);have tO:=lm;have mA:=eG;have a25:=iV;have v25:=kP;have f6:=hH;have f7:=kl;have mK:=gE;have mE:=gF;have mI:=eP;have k27:=km;have k25:=kn;have e27:=ko;have i25:=fS;have n8:=jK ⟨w.heap.size,0,none⟩ t ((w.alloc (.cells #[.pointer (some t)] 89)).alloc (.cells #[.pointer (some ⟨17,89,none⟩),.pointer (some ⟨w.heap.size,0,none⟩),.int .u64 150] 127)) (by simp);have hlt:8 < w.heap.size:=by
  rcases bf 8 w.heap.size with h | h
  ·exact h
  ·simp [World.cell?,aQ h] at hg
 have hg2:((w.alloc (.cells #[.pointer (some t)] 89)).alloc (.cells #[.pointer (some ⟨17,89,none⟩),.pointer (some ⟨w.heap.size,0,none⟩),.int .u64 150] 127)).cell? ⟨8,0,none⟩=some (.iface 154 (.agg #[.pointer (some ⟨17,31,none⟩)])):=by
  rw [bK _ _ ⟨8,0,none⟩ (by simp; omega),bK _ _ ⟨8,0,none⟩ hlt]; exact hg
 have htl:t.block < w.heap.size:=by
  rcases bf t.block w.heap.size with h | h
  ·exact h
  ·simp [World.cell?,aQ h] at ht0
 have el:=lP ⟨w.heap.size,0,none⟩ t (((w.alloc (.cells #[.pointer (some t)] 89)).alloc (.cells #[.pointer (some ⟨17,89,none⟩),.pointer (some ⟨w.heap.size,0,none⟩),.int .u64 150] 127)).alloc (.cells #[.pointer (some ⟨17,89,none⟩),.pointer (some ⟨w.heap.size,0,none⟩),.int .u64 150] 127)) (by rw [bK _ _ ⟨w.heap.size,0,none⟩ (by simp; omega)]; simp);have st:=nS t ⟨w.heap.size+1+1+1,0,none⟩ e old ((((w.alloc (.cells #[.pointer (some t)] 89)).alloc (.cells #[.pointer (some ⟨17,89,none⟩),.pointer (some ⟨w.heap.size,0,none⟩),.int .u64 150] 127)).alloc (.cells #[.pointer (some ⟨17,89,none⟩),.pointer (some ⟨w.heap.size,0,none⟩),.int .u64 150] 127)).alloc (.cells #[.pointer (some e)] 87))
  (by rw [World.cell?_alloc_at _ _ _ _ (by simp)]; rfl)
  (by rw [bK _ _ t (by simp; omega),bK _ _ t (by simp; omega),bK _ _ t (by simp; omega),bK _ _ t htl]; exact ht0)
  (by rw [eQ _ _ t (by simp; omega),eQ _ _ t (by simp; omega),eQ _ _ t (by simp; omega),eQ _ _ t (bL htl)]; exact hf0)
 go_enter Tryz.func53,Tryz.ntmps53
 go_wp2
 refine wp_loop_rounds 1 ?_;rw [rounds_succ]
 go_wp2
 go_ret
 exact ⟨rfl,rfl⟩
theorem lM (v:Value) (w:World):(ReflectliteType.typeOf #[.iface 230 v]).run Tryz.prog w= .ok (.iface 154 (.agg #[.pointer (some ⟨17,230,none⟩)])) w:=by kernel_rfl
theorem jL (w:World):(ReflectliteType.relation "AssignableTo" ReflectliteType.assignableTo #[.agg #[.pointer (some ⟨17,230,none⟩)],.iface 154 (.agg #[.pointer (some ⟨17,87,none⟩)])]).run Tryz.prog w= .ok (.bool false) w:=by kernel_rfl
theorem nU (v:Value) (xT:TypeId) (w:World):(Instr.typeAssert (.iface 230 v) xT 165 true).run Tryz.prog w= .ok (.tuple #[.nilIface,.bool false]) w:=run_typeAssert_lacksB Tryz.underlying165 (by kernel_rfl) (by kernel_rfl) v xT w
theorem kQ (v:Value) (xT:TypeId) (w:World):(Instr.typeAssert (.iface 230 v) xT 159 true).run Tryz.prog w= .ok (.tuple #[.nilIface,.bool false]) w:=run_typeAssert_lacksB Tryz.underlying159 (by kernel_rfl) (by kernel_rfl) v xT w
theorem kb (v:Value) (xT:TypeId) (w:World):(Instr.typeAssert (.iface 230 v) xT 160 true).run Tryz.prog w= .ok (.tuple #[.nilIface,.bool false]) w:=run_typeAssert_lacksB Tryz.underlying160 (by kernel_rfl) (by kernel_rfl) v xT w
set_option maxHeartbeats 4000000 in
theorem oI (e t:Addr) (old:Value) (w:World) (hg:w.cell? ⟨8,0,none⟩=some (.iface 154 (.agg #[.pointer (some ⟨17,31,none⟩)]))) (ht0:w.cell? t=some old):
  Calls Tryz.prog 53 #[.iface 230 (.pointer (some e)),.iface 89 (.pointer (some t))] w fun ev w'=>ev= .returned (.bool false)∧w'=((w.alloc (.cells #[.pointer (some t)] 89)).alloc (.cells #[.pointer (some ⟨17,89,none⟩),.pointer (some ⟨w.heap.size,0,none⟩),.int .u64 150] 127)).alloc (.cells #[.pointer (some ⟨17,89,none⟩),.pointer (some ⟨w.heap.size,0,none⟩),.int .u64 150] 127):=by
 have h6:= @aq Tryz.prog 75 _ (fun args=>ReflectliteValue.unpack (args.getD 0 (.tuple #[]))) Tryz.func75 (by kernel_rfl) (by kernel_rfl) (by kernel_rfl) (by kernel_rfl);have h7:= @aq Tryz.prog 76 _ (ReflectliteValue.methodAny (ReflectliteValue.valueError "reflectlite.Value.Type" 0) (fun t _ _ _=>ReflectliteType.toType t)) Tryz.func76 (by kernel_rfl) (by kernel_rfl) (by kernel_rfl) (by kernel_rfl);have h8:= @aq Tryz.prog 77 _ (ReflectliteValue.method (ReflectliteValue.valueError "reflectlite.Value.IsNil" 0) ReflectliteValue.isNil) Tryz.func77 (by kernel_rfl) (by kernel_rfl) (by kernel_rfl) (by kernel_rfl);have h27:= @aq Tryz.prog 188 _ (ReflectliteType.abiMethod fun t=>do pure (.int .u8 (←Rtype.kind t))) Tryz.func188 (by kernel_rfl) (by kernel_rfl) (by kernel_rfl) (by kernel_rfl);have h37:= @aq Tryz.prog 200 _ (ReflectliteType.method ReflectliteType.elem) Tryz.func200 (by kernel_rfl) (by kernel_rfl) (by kernel_rfl) (by kernel_rfl);have h38:= @aq Tryz.prog 201 _ (ReflectliteType.relation "Implements" ReflectliteType.implements_) Tryz.func201 (by kernel_rfl) (by kernel_rfl) (by kernel_rfl) (by kernel_rfl);have h10:= @aq Tryz.prog 73 _ ReflectliteType.typeOf Tryz.func73 (by kernel_rfl) (by kernel_rfl) (by kernel_rfl) (by kernel_rfl);have h35:= @aq Tryz.prog 198 _ (ReflectliteType.relation "AssignableTo" ReflectliteType.assignableTo) Tryz.func198 (by kernel_rfl) (by kernel_rfl) (by kernel_rfl) (by kernel_rfl);have h11:= @aq Tryz.prog 100 _ (ReflectliteValue.method (ReflectliteValue.valueError "reflectlite.Value.Elem" 0) ReflectliteValue.elem) Tryz.func100 (by kernel_rfl) (by kernel_rfl) (by kernel_rfl) (by kernel_rfl);have h12:= @aq Tryz.prog 101 _ ReflectliteValue.set Tryz.func101 (by kernel_rfl) (by kernel_rfl) (by kernel_rfl) (by kernel_rfl);have tO:=lM;have mA:=eG;have a25:=jL;have n0:=nU;have n1:=kQ;have n2:=kb;have f6:=hH;have f7:=kl;have mK:=gE;have mE:=gF;have mI:=eP;have k27:=km;have k25:=kn;have e27:=ko;have i25:=fS;have n8:=jK ⟨w.heap.size,0,none⟩ t ((w.alloc (.cells #[.pointer (some t)] 89)).alloc (.cells #[.pointer (some ⟨17,89,none⟩),.pointer (some ⟨w.heap.size,0,none⟩),.int .u64 150] 127)) (by simp);have hlt:8 < w.heap.size:=by
  rcases bf 8 w.heap.size with h | h
  ·exact h
  ·simp [World.cell?,aQ h] at hg
 have hg2:((w.alloc (.cells #[.pointer (some t)] 89)).alloc (.cells #[.pointer (some ⟨17,89,none⟩),.pointer (some ⟨w.heap.size,0,none⟩),.int .u64 150] 127)).cell? ⟨8,0,none⟩=some (.iface 154 (.agg #[.pointer (some ⟨17,31,none⟩)])):=by
  rw [bK _ _ ⟨8,0,none⟩ (by simp; omega),bK _ _ ⟨8,0,none⟩ hlt]; exact hg
 have htl:t.block < w.heap.size:=by
  rcases bf t.block w.heap.size with h | h
  ·exact h
  ·simp [World.cell?,aQ h] at ht0
 go_enter Tryz.func53,Tryz.ntmps53
 go_wp2
 refine wp_loop_rounds 1 ?_;rw [rounds_succ]
 go_wp2
 go_ret
 exact ⟨rfl,rfl⟩
structure bj (w w':World) (t:Nat):Prop where
 os:w'.os=w.os
 output:w'.output=w.output
 size:w.heap.size≤w'.heap.size
 block:∀k,k < w.heap.size→k≠t→w'.heap[k]? = w.heap[k]?
 frz:∀a,a.block < w.heap.size→w'.frozen? a=w.frozen? a
theorem bj.one (w:World) (v:Array Value) (T:TypeId) (t:Nat):bj w (w.alloc (.cells v T)) t:=
 ⟨rfl,rfl,by simp,fun k hk _=>bF _ _ _ hk,fun a _=>nY _ _ _ _⟩
theorem bj.set (w:World) (t:Nat) (v:Value):bj w (w.setCell ⟨t,0,none⟩ v) t:=
 ⟨rfl,rfl,by simp [World.setCell],fun k hk hne=>by
  show (w.heap.modify t _)[k]? = _;rw [ja,ae fun h=>hne h.symm],fun a _=>World.frozen?_setCell _ _ _ _⟩
theorem bj.trans {w w' w'':World} {t:Nat} (h:bj w w' t) (k:bj w' w'' t):bj w w'' t:=
 ⟨k.os.trans h.os,k.output.trans h.output,cD h.size k.size,fun i hi hn=>(k.block i (aS hi h.size) hn).trans (h.block i hi hn),
  fun a ha=>(k.frz a (aS ha h.size)).trans (h.frz a ha)⟩
theorem bj.cell {w w':World} {t:Nat} (h:bj w w' t) {k:Nat} (o:Nat) (hk:k < w.heap.size) (hn:k≠t):w'.cell? ⟨k,o,none⟩=w.cell? ⟨k,o,none⟩:=
 bJ (w:=w) (a:=⟨k,o,none⟩) (h.block k hk hn)
theorem mt (e:Addr) (tb:Nat) (w:World) (hg:w.cell? ⟨8,0,none⟩=some (.iface 154 (.agg #[.pointer (some ⟨17,31,none⟩)]))) (ht0:w.heap[tb]? = some (.cells #[.pointer none] 87 (0,0))):
  Calls Tryz.prog 53 #[.iface 87 (.pointer (some e)),.iface 89 (.pointer (some ⟨tb,0,none⟩))] w fun ev w'=>ev= .returned (.bool true)∧w'.cell? ⟨tb,0,none⟩=some (.pointer (some e))∧bj w w' tb:=by
 have hlt:tb < w.heap.size:=(Array.getElem?_eq_some_iff.1 ht0).1;have h1:∀o,w.cell? ⟨tb,o,none⟩=(#[Value.pointer none]:Array Value)[o]? :=fun o=>by unfold World.cell?; rw [ht0]; rfl
 refine (po e ⟨tb,0,none⟩ (.pointer none) w hg (by rw [h1]; rfl) (by unfold World.frozen?; rw [ht0]; rfl)).mono ?_;rintro ev w' ⟨rfl,rfl⟩;have hk:=((((bj.one w #[.pointer (some ⟨tb,0,none⟩)] 89 tb).trans (bj.one _ #[.pointer (some ⟨17,89,none⟩),.pointer (some ⟨w.heap.size,0,none⟩),.int .u64 150] 127 tb)).trans
  (bj.one _ #[.pointer (some ⟨17,89,none⟩),.pointer (some ⟨w.heap.size,0,none⟩),.int .u64 150] 127 tb)).trans (bj.one _ #[.pointer (some e)] 87 tb))
 refine ⟨rfl,?_,hk.trans (bj.set _ _ _)⟩;have h2:((((w.alloc (.cells #[.pointer (some ⟨tb,0,none⟩)] 89)).alloc (.cells #[.pointer (some ⟨17,89,none⟩),.pointer (some ⟨w.heap.size,0,none⟩),.int .u64 150] 127)).alloc (.cells #[.pointer (some ⟨17,89,none⟩),.pointer (some ⟨w.heap.size,0,none⟩),.int .u64 150] 127)).alloc (.cells #[.pointer (some e)] 87)).heap[tb]? = some (.cells #[.pointer none] 87 (0,0)):=by
  rw [bF _ _ _ (by simp; omega),bF _ _ _ (by simp; omega),bF _ _ _ (by simp; omega),bF _ _ _ hlt];exact ht0
 unfold World.cell? World.setCell;rw [ja,ac rfl,h2];rfl
set_option maxRecDepth 1000000 in
theorem nR {w:World} {fb:Nat} {i:Int} (hg:w.cell? ⟨8,0,none⟩=some (.iface 154 (.agg #[.pointer (some ⟨17,31,none⟩)]))) (h0:w.cell? ⟨fb,0,none⟩=some (.int .i64 i)):
  Calls Tryz.prog 22 #[.iface 87 (.pointer (some ⟨fb,0,none⟩))] w fun ev w'=>ev= .returned (.int .i64 i)∧bj w w' w.heap.size:=by
 have hlt:∀{b:Nat} {v:Value},w.cell? ⟨b,0,none⟩=some v→b < w.heap.size:=fun {b v} h=>by
  rcases bf b w.heap.size with h2 | h2
  ·exact h2
  ·simp [World.cell?,aQ h2] at h
 have hk1:=bj.one w #[.pointer none] 87 w.heap.size;have hg1:=hk1.cell (k:=8) 0 (hlt hg) (bL (hlt hg));have hcon:=mt ⟨fb,0,none⟩ w.heap.size (w.alloc (.cells #[.pointer none] 87)) (hg1.trans hg) (ge w _);have hfb:=hlt h0
 go_enter Tryz.func22,Tryz.ntmps22
 go_wp2_with (first | (go_at_call 53; refine hcon.mono ?_; rintro ev w' ⟨rfl,hc,hk⟩; have h3:=((hk1.trans hk).cell 0 hfb (bL hfb)).trans h0) | go_in)
 go_ret
 exact ⟨rfl,hk1.trans hk⟩
theorem nV (e:Addr) (tb:Nat) (w:World) (hg:w.cell? ⟨8,0,none⟩=some (.iface 154 (.agg #[.pointer (some ⟨17,31,none⟩)]))) (ht0:w.heap[tb]? = some (.cells #[.pointer none] 87 (0,0))):
  Calls Tryz.prog 53 #[.iface 230 (.pointer (some e)),.iface 89 (.pointer (some ⟨tb,0,none⟩))] w fun ev w'=>ev= .returned (.bool false)∧bj w w' w.heap.size:=by
 have h1:∀o,w.cell? ⟨tb,o,none⟩=(#[Value.pointer none]:Array Value)[o]? :=fun o=>by unfold World.cell?; rw [ht0]; rfl
 refine (oI e ⟨tb,0,none⟩ (.pointer none) w hg (by rw [h1]; rfl)).mono ?_;rintro ev w' ⟨rfl,rfl⟩;exact ⟨rfl,((bj.one w #[.pointer (some ⟨tb,0,none⟩)] 89 _).trans (bj.one _ #[.pointer (some ⟨17,89,none⟩),.pointer (some ⟨w.heap.size,0,none⟩),.int .u64 150] 127 _)).trans (bj.one _ #[.pointer (some ⟨17,89,none⟩),.pointer (some ⟨w.heap.size,0,none⟩),.int .u64 150] 127 _)⟩
set_option maxRecDepth 1000000 in
theorem mq {w:World} {e:Addr} (hg:w.cell? ⟨8,0,none⟩=some (.iface 154 (.agg #[.pointer (some ⟨17,31,none⟩)]))):
  Calls Tryz.prog 22 #[.iface 230 (.pointer (some e))] w fun ev w'=>ev= .returned (.int .i64 (-1))∧bj w w' w.heap.size:=by
 have hlt:∀{b:Nat} {v:Value},w.cell? ⟨b,0,none⟩=some v→b < w.heap.size:=fun {b v} h=>by
  rcases bf b w.heap.size with h2 | h2
  ·exact h2
  ·simp [World.cell?,aQ h2] at h
 have hk1:=bj.one w #[.pointer none] 87 w.heap.size;have hg1:=hk1.cell (k:=8) 0 (hlt hg) (bL (hlt hg));have hcon:=nV e w.heap.size (w.alloc (.cells #[.pointer none] 87)) (hg1.trans hg) (ge w _)
 go_enter Tryz.func22,Tryz.ntmps22
 go_wp2_with (first | (go_at_call 53; refine hcon.mono ?_; rintro ev w' ⟨rfl,hk⟩) | go_in)
 go_ret
 exact ⟨rfl,⟨hk1.os▸ hk.os,hk1.output▸ hk.output,cD hk1.size hk.size,fun k h hn=>(hk.block k (aS h hk1.size) (by simp; omega)).trans (hk1.block k h hn),fun a ha=>(hk.frz a (aS ha hk1.size)).trans (hk1.frz a ha)⟩⟩
def dP (p0:Er):Option Int:=match p0 with
 | .fault i _=>some i
 | .sent _=>some (-1)
 | _=>none
def Eh (c:Cx):Prop:=Im c 8 0 (.iface 154 (.agg #[.pointer (some ⟨17,31,none⟩)]))
theorem Eh.m {c c':Cx} (h:Eh c) (k:c.le c':=by repeat (first | assumption | refine Cx.le.trans ?_ (by assumption))):Eh c':=Im.mono h k
theorem gk {c0:Cx} {G:Gm} {F:List En} {v1:Value} (O0:Own c0 G F) (hU:Eh c0) (p0:Er) (h1:RE 230 87 c0 v1 p0) {r:Int} (H:dP p0=some r): Calls Tryz.prog 22 #[v1] c0.w (bG c0 fun c v=>Own c G F∧v= .int .i64 r):=by
 have keep:∀w',bj c0.w w' c0.w.heap.size→c0.but (fun _=>False) ⟨w',c0.A,c0.t⟩:=fun w' hk=>⟨⟨hk.os,hk.output,hk.size,fun k o h hA=>⟨hk.cell o h (bL h),hA⟩,fun k h _=>hk.block k h (bL h),fun a h _=>hk.frz a h,fun _ _ _ h=>h⟩,rfl,
   fun k h _=>⟨hk.block k h (bL h),fun _=>lv⟩⟩
 unfold dP at H;split at H
 ·cases H;obtain ⟨b,u,rfl,h2,_,_⟩:=h1;refine (nR hU.cell h2.cell).mono ?_;rintro e w' ⟨rfl,hk⟩;exact ⟨_,⟨w',c0.A,c0.t⟩,rfl,rfl,(keep w' hk).le,O0.keep (keep w' hk),rfl⟩
 ·cases H;obtain ⟨a,rfl,_,_⟩:=h1;refine (mq hU.cell).mono ?_;rintro e w' ⟨rfl,hk⟩;exact ⟨_,⟨w',c0.A,c0.t⟩,rfl,rfl,(keep w' hk).le,O0.keep (keep w' hk),rfl⟩
 ·cases H
end Go.Proofs.YtmncdniojmigeaaGreatDoor
namespace Go.Proofs.YtmncdniojmigeaaGreatDoor
open Go Go.Lt
set_option maxRecDepth 10000
set_option linter.unusedVariables false
attribute [local irreducible] W WL AC
open Tryz
variable {c0:Cx} {G:Gm} {F:List En} {sg:Sto} {v1 v2 v3 v4 v5 v6 v7 v8 v9 v10 v11 v12 v13 v14 v15 v16 v17 v18 v19 v20 v21 v22 v23 v24 v25 v26 v27 v28 v29 v30 v31 v32 v33 v34 v35 v36 v37 v38 v39 v40 v41 v42 v43 v44 v45 v46 v47 v48 v49 v50 v51 v52 v53 v54 v55 v56 v57 v58 v59 v60:Value}
def bh (p0:Int):Option ((List ByteArray)×Int):=
 if (p0==1)=true then
 some (([(⟨#[102,108,117,115,104]⟩:ByteArray)]:List ByteArray),0)
 else
 if (p0==2)=true then
 some (([(⟨#[109,111,118,101]⟩:ByteArray)]:List ByteArray),2)
 else
 if (p0==3)=true then
 some (([(⟨#[101,114,97,115,101]⟩:ByteArray),(⟨#[108,105,110,101]⟩:ByteArray)]:List ByteArray),1)
 else
 if (p0==4)=true then
 some (([(⟨#[101,114,97,115,101]⟩:ByteArray),(⟨#[115,99,114,101,101,110]⟩:ByteArray)]:List ByteArray),1)
 else
 if (p0==5)=true then
 some (([(⟨#[101,114,97,115,101]⟩:ByteArray),(⟨#[99,101,108,108,115]⟩:ByteArray)]:List ByteArray),1)
 else
 if (p0==6)=true then
 some (([(⟨#[105,110,115,101,114,116]⟩:ByteArray),(⟨#[99,101,108,108,115]⟩:ByteArray)]:List ByteArray),1)
 else
 if (p0==7)=true then
 some (([(⟨#[100,101,108,101,116,101]⟩:ByteArray),(⟨#[99,101,108,108,115]⟩:ByteArray)]:List ByteArray),1)
 else
 if (p0==8)=true then
 some (([(⟨#[105,110,115,101,114,116]⟩:ByteArray),(⟨#[108,105,110,101,115]⟩:ByteArray)]:List ByteArray),1)
 else
 if (p0==9)=true then
 some (([(⟨#[100,101,108,101,116,101]⟩:ByteArray),(⟨#[108,105,110,101,115]⟩:ByteArray)]:List ByteArray),1)
 else
 if (p0==10)=true then
 some (([(⟨#[115,99,114,111,108,108]⟩:ByteArray),(⟨#[117,112]⟩:ByteArray)]:List ByteArray),1)
 else
 if (p0==11)=true then
 some (([(⟨#[115,99,114,111,108,108]⟩:ByteArray),(⟨#[100,111,119,110]⟩:ByteArray)]:List ByteArray),1)
 else
 if (p0==13)=true then
 some (([(⟨#[114,101,115,105,122,101]⟩:ByteArray)]:List ByteArray),2)
 else
 some (([]:List ByteArray),0)
theorem eA (b:Own c0 G F) (a:Int) {r:(List ByteArray)×Int} (H:bh a=some r):
    Calls prog 43 #[I a] c0.w (bG c0 fun c v=>∃d y2,Own c G (es true RS d 9 y2 r.1 :: F)∧v= .tuple #[d,I r.2]∧OA RS c d y2 r.1∧(r.1= []→d=Y)):=by
 unfold bh at H
 refine en func43 rfl rfl (sr (va (Y) (va (I 0) (wln (W.seq (sr (va (I a) (wln (W.block (sr (vv (B (a==1)) (wln (cn H (fun h1 H=>?_) (fun h1 H=>?_))))))))))))))
 ·refine sr (me (sl RS 9 [[.string (⟨#[102,108,117,115,104]⟩:ByteArray)]] ([(⟨#[102,108,117,115,104]⟩:ByteArray)]:List ByteArray) b ⟨rfl,trivial⟩) ?_)
  rintro v6 c5 l5 ⟨u3,O2,h4⟩
  refine va (v6) (va (I 0) (wln (W.ret (bkr (thr ?_)))))
  obtain rfl:=si H
  exact r2 (qq c5 ⟨v6,u3,O2,rfl,h4,(fun h=>by cases h)⟩)
 refine sr (vv (B (a==2)) (wln (cn H (fun h7 H=>?_) (fun h7 H=>?_))))
 ·refine sr (me (sl RS 9 [[.string (⟨#[109,111,118,101]⟩:ByteArray)]] ([(⟨#[109,111,118,101]⟩:ByteArray)]:List ByteArray) b ⟨rfl,trivial⟩) ?_)
  rintro v12 u s1 ⟨u9,O8,S⟩
  refine va (v12) (va (I 2) (wln (W.ret (bkr (thr ?_)))))
  obtain rfl:=si H
  exact r2 (qq u ⟨v12,u9,O8,rfl,S,(fun h=>by cases h)⟩)
 refine sr (vv (B (a==3)) (wln (cn H (fun T H=>?_) (fun T H=>?_))))
 ·refine sr (me (sl RS 9 [[.string (⟨#[101,114,97,115,101]⟩:ByteArray)],[.string (⟨#[108,105,110,101]⟩:ByteArray)]] ([(⟨#[101,114,97,115,101]⟩:ByteArray),(⟨#[108,105,110,101]⟩:ByteArray)]:List ByteArray) b ⟨rfl,rfl,trivial⟩) ?_)
  rintro v18 x t1 ⟨v0,i,U⟩
  refine va (v18) (va (I 1) (wln (W.ret (bkr (thr ?_)))))
  obtain rfl:=si H
  exact r2 (qq x ⟨v18,v0,i,rfl,U,(fun h=>by cases h)⟩)
 refine sr (vv (B (a==4)) (wln (cn H (fun X H=>?_) (fun X H=>?_))))
 ·refine sr (me (sl RS 9 [[.string (⟨#[101,114,97,115,101]⟩:ByteArray)],[.string (⟨#[115,99,114,101,101,110]⟩:ByteArray)]] ([(⟨#[101,114,97,115,101]⟩:ByteArray),(⟨#[115,99,114,101,101,110]⟩:ByteArray)]:List ByteArray) b ⟨rfl,rfl,trivial⟩) ?_)
  rintro v24 y u1 ⟨w0,j,Z⟩
  refine va (v24) (va (I 1) (wln (W.ret (bkr (thr ?_)))))
  obtain rfl:=si H
  exact r2 (qq y ⟨v24,w0,j,rfl,Z,(fun h=>by cases h)⟩)
 refine sr (vv (B (a==5)) (wln (cn H (fun a0 H=>?_) (fun a0 H=>?_))))
 ·refine sr (me (sl RS 9 [[.string (⟨#[101,114,97,115,101]⟩:ByteArray)],[.string (⟨#[99,101,108,108,115]⟩:ByteArray)]] ([(⟨#[101,114,97,115,101]⟩:ByteArray),(⟨#[99,101,108,108,115]⟩:ByteArray)]:List ByteArray) b ⟨rfl,rfl,trivial⟩) ?_)
  rintro v30 z v1 ⟨x0,k,b0⟩
  refine va (v30) (va (I 1) (wln (W.ret (bkr (thr ?_)))))
  obtain rfl:=si H
  exact r2 (qq z ⟨v30,x0,k,rfl,b0,(fun h=>by cases h)⟩)
 refine sr (vv (B (a==6)) (wln (cn H (fun d0 H=>?_) (fun d0 H=>?_))))
 ·refine sr (me (sl RS 9 [[.string (⟨#[105,110,115,101,114,116]⟩:ByteArray)],[.string (⟨#[99,101,108,108,115]⟩:ByteArray)]] ([(⟨#[105,110,115,101,114,116]⟩:ByteArray),(⟨#[99,101,108,108,115]⟩:ByteArray)]:List ByteArray) b ⟨rfl,rfl,trivial⟩) ?_)
  rintro v36 A w1 ⟨y0,l,e0⟩
  refine va (v36) (va (I 1) (wln (W.ret (bkr (thr ?_)))))
  obtain rfl:=si H
  exact r2 (qq A ⟨v36,y0,l,rfl,e0,(fun h=>by cases h)⟩)
 refine sr (vv (B (a==7)) (wln (cn H (fun f0 H=>?_) (fun f0 H=>?_))))
 ·refine sr (me (sl RS 9 [[.string (⟨#[100,101,108,101,116,101]⟩:ByteArray)],[.string (⟨#[99,101,108,108,115]⟩:ByteArray)]] ([(⟨#[100,101,108,101,116,101]⟩:ByteArray),(⟨#[99,101,108,108,115]⟩:ByteArray)]:List ByteArray) b ⟨rfl,rfl,trivial⟩) ?_)
  rintro v42 D x1 ⟨z0,m,g0⟩
  refine va (v42) (va (I 1) (wln (W.ret (bkr (thr ?_)))))
  obtain rfl:=si H
  exact r2 (qq D ⟨v42,z0,m,rfl,g0,(fun h=>by cases h)⟩)
 refine sr (vv (B (a==8)) (wln (cn H (fun h0 H=>?_) (fun h0 H=>?_))))
 ·refine sr (me (sl RS 9 [[.string (⟨#[105,110,115,101,114,116]⟩:ByteArray)],[.string (⟨#[108,105,110,101,115]⟩:ByteArray)]] ([(⟨#[105,110,115,101,114,116]⟩:ByteArray),(⟨#[108,105,110,101,115]⟩:ByteArray)]:List ByteArray) b ⟨rfl,rfl,trivial⟩) ?_)
  rintro v48 E z1 ⟨a1,n,i0⟩
  refine va (v48) (va (I 1) (wln (W.ret (bkr (thr ?_)))))
  obtain rfl:=si H
  exact r2 (qq E ⟨v48,a1,n,rfl,i0,(fun h=>by cases h)⟩)
 refine sr (vv (B (a==9)) (wln (cn H (fun j0 H=>?_) (fun j0 H=>?_))))
 ·refine sr (me (sl RS 9 [[.string (⟨#[100,101,108,101,116,101]⟩:ByteArray)],[.string (⟨#[108,105,110,101,115]⟩:ByteArray)]] ([(⟨#[100,101,108,101,116,101]⟩:ByteArray),(⟨#[108,105,110,101,115]⟩:ByteArray)]:List ByteArray) b ⟨rfl,rfl,trivial⟩) ?_)
  rintro v54 M b2 ⟨b1,o,k0⟩
  refine va (v54) (va (I 1) (wln (W.ret (bkr (thr ?_)))))
  obtain rfl:=si H
  exact r2 (qq M ⟨v54,b1,o,rfl,k0,(fun h=>by cases h)⟩)
 refine sr (vv (B (a==10)) (wln (cn H (fun l0 H=>?_) (fun l0 H=>?_))))
 ·refine sr (me (sl RS 9 [[.string (⟨#[115,99,114,111,108,108]⟩:ByteArray)],[.string (⟨#[117,112]⟩:ByteArray)]] ([(⟨#[115,99,114,111,108,108]⟩:ByteArray),(⟨#[117,112]⟩:ByteArray)]:List ByteArray) b ⟨rfl,rfl,trivial⟩) ?_)
  rintro v60 N c2 ⟨c1,p,m0⟩
  refine va (v60) (va (I 1) (wln (W.ret (bkr (thr ?_)))))
  obtain rfl:=si H
  exact r2 (qq N ⟨v60,c1,p,rfl,m0,(fun h=>by cases h)⟩)
 refine sr (vv (B (a==11)) (wln (cn H (fun o0 H=>?_) (fun o0 H=>?_))))
 ·refine sr (me (sl RS 9 [[.string (⟨#[115,99,114,111,108,108]⟩:ByteArray)],[.string (⟨#[100,111,119,110]⟩:ByteArray)]] ([(⟨#[115,99,114,111,108,108]⟩:ByteArray),(⟨#[100,111,119,110]⟩:ByteArray)]:List ByteArray) b ⟨rfl,rfl,trivial⟩) ?_)
  rintro f P d2 ⟨d1,q,q0⟩
  refine va (f) (va (I 1) (wln (W.ret (bkr (thr ?_)))))
  obtain rfl:=si H
  exact r2 (qq P ⟨f,d1,q,rfl,q0,(fun h=>by cases h)⟩)
 refine sr (vv (B (a==13)) (wln (cn H (fun s0 H=>?_) (fun s0 H=>?_))))
 ·refine sr (me (sl RS 9 [[.string (⟨#[114,101,115,105,122,101]⟩:ByteArray)]] ([(⟨#[114,101,115,105,122,101]⟩:ByteArray)]:List ByteArray) b ⟨rfl,trivial⟩) ?_)
  rintro g R e2 ⟨e1,s,t0⟩
  refine va (g) (va (I 2) (wln (W.ret (bkr (thr ?_)))))
  obtain rfl:=si H
  exact r2 (qq R ⟨g,e1,s,rfl,t0,(fun h=>by cases h)⟩)
 refine W.skip (bkn (nrm (sr (va (Y) (va (I 0) (wln (W.ret ?_)))))))
 obtain rfl:=si H
 have u0:OA RS c0 (Y) [] []:=OA.nil (be _)
 have t:=b.addHole (e:=es true RS (Y) 9 [] ([]:List ByteArray)) rfl
 exact r2 (qq c0 ⟨(Y),[],t,rfl,u0,(fun _=>rfl)⟩)
def aM (p0:Int):Option (Er):=
 (em p0 (Er.sent 5)).bind fun a=>
 some a
theorem bP (f:Own c0 G F) (hG:Gl [5] c0) (a:Int) {r:Er} (H:aM a=some r): Calls prog 49 #[I a] c0.w (bG c0 fun c v=>∃e,Own c G (F)∧v=e∧RE 230 87 c e r):=by
 unfold aM at H;refine en func49 rfl rfl (sr (va (.nilIface) (wln (sr (va (I a) ?_)))));obtain ⟨v1,d⟩:=hG.get 5 (by decide);refine vx (l1 jd d.im) (bn H fun k h H=>cl (gj f a (Er.sent 5) d h) ?_);rintro v4 b j ⟨_,g,rfl,i⟩;refine va (v4) (wln (W.ret ?_));obtain rfl:=si H;exact r1 (qq b ⟨v4,g,rfl,i⟩)
def dj (p0:ByteArray):Option ((List Int)×Bool):=
 if (eqS p0 (⟨#[45]⟩:ByteArray))=true then
 some (([]:List Int),true)
 else
 (orE ((aR p0)==0) (some (((aR p0).tmod 2) != 0))).bind fun e=>
 if e=true then
 some (([]:List Int),false)
 else
 (cT (σ:=(List Int)×Int) (τ:=((List Int)×Bool) ⊕ (List Int)) (((aR p0) - 0).toNat+1) (fun a=>
 if (decide (a.2 < (aR p0)))=true then
 (eU p0 a.2).bind fun g=>
 (eU p0 (w64 (a.2+1))).bind fun h=>
 (bE (⟨#[48,49,50,51,52,53,54,55,56,57,97,98,99,100,101,102]⟩:ByteArray) g).bind fun c=>
 (bE (⟨#[48,49,50,51,52,53,54,55,56,57,97,98,99,100,101,102]⟩:ByteArray) h).bind fun d=>
 (orE (decide (c < 0)) (some (decide (d < 0)))).bind fun f=>
 if f=true then
 some (.inr (.inl (([]:List Int),false)))
 else
 (app a.1 ([(IntKind.u8.wrap (lG .i64 (w64 (c * 2 ^ 4)) d))]:List Int)).bind fun i=>
 some (.inl (i,(w64 (a.2+2))))
 else
 some (.inr (.inr (a.1)))) (([]:List Int),0)).bind fun b=>
 match b with
 | .inl b=>
 some b
 | .inr b=>
 some (b,true)
theorem kL (X:Own c0 G F) (d:ByteArray) {r:(List Int)×Bool} (H:dj d=some r): Calls prog 70 #[.string d] c0.w (bG c0 fun c v=>∃y1 y2,Own c G (es true (RI .u8) y1 5 y2 r.1 :: F)∧v= .tuple #[y1,B r.2]∧OA (RI .u8) c y1 y2 r.1):=by
 unfold dj at H;refine en func70 rfl rfl (sr (va (Y) (va (B false) (wln (W.seq (sr (va (.string d) (vr (B (eqS d (⟨#[45]⟩:ByteArray))) (ed (by kernel_rfl)) (wln (cn H (fun h1 H=>?_) (fun h1 H=>?_)))))))))))
 ·refine sr (va (Y) (va (B true) (wln (W.ret (thr ?_)))));obtain rfl:=si H;have h3:OA (RI .u8) c0 (Y) [] []:=OA.nil (be _);have O2:=X.addHole (e:=es true (RI .u8) (Y) 5 [] ([]:List Int)) rfl;exact r2 (qq c0 ⟨(Y),[],O2,rfl,h3⟩)
 refine W.skip (nrm (W.seq (W.seq (bn H fun Z h4 H=>W.join (Jn c0 fun c l=>Own c G (F)∧l= [(0,.string d),(18,B Z)]) ?_ ?_))))
 ·clear H;refine W.region (va (.string d) (vr (I (aR d)) (rx (by kernel_rfl) (cE (ty:=3) u_9 _)) (va (B ((aR d)==0)) ?_)));rcases bo ((aR d)==0) with u | u
  ·obtain rfl:=orT u h4;exact vb u (pz (pz (va (B true) (wln (jn c0 ⟨X,rfl⟩)))))
  have H6:=orF u h4;refine vb u (wa (.string d) (wn (vr (I (aR d)) (rx (by kernel_rfl) (cE (ty:=3) u_9 _)) (wa (I ((aR d).tmod 2)) (wa (B (((aR d).tmod 2) != 0)) ?_)))));obtain rfl:=si H6;exact va (B (((aR d).tmod 2) != 0)) (wln (jn c0 ⟨X,rfl⟩))
 rintro A D ⟨i,g8,_,rfl,l7,rfl,O9,rfl⟩;refine nrm (cn H (fun d1 H=>?_) (fun d1 H=>?_))
 ·refine sr (va (Y) (va (B false) (wln (W.ret (thr ?_)))));obtain rfl:=si H;have e1:OA (RI .u8) i (Y) [] []:=OA.nil (be _);have f0:=O9.addHole (e:=es true (RI .u8) (Y) 5 [] ([]:List Int)) rfl;exact r2 (qq i ⟨(Y),[],f0,rfl,e1⟩)
 refine W.skip (nrm (sr (va (Y) (wln (W.seq (sr (va (I 0) (wln (W.block (bn H fun j R s=>lp R (fun a=>Jn i fun c l=>∃v18 h,Own c G (es true (RI .u8) v18 5 h a.1 :: F)∧l= [(0,.string d),(4,v18),(5,I a.2)]∧OA (RI .u8) c v18 h a.1) (fun t=>match t with | .inl x_=>(fun x ex e w=>ex= .ret∧(Jn i fun c l=>∃v22 q,Own c G (es true (RI .u8) v22 5 q x.1 :: F)∧l= [(2,v22),(3,B x.2)]∧OA (RI .u8) c v22 q x.1) e w) x_ | .inr x_=>(fun o ex e w=>ex= .exit 0∧(Jn i fun c l=>∃v20 p,Own c G (es true (RI .u8) v20 5 p o :: F)∧l= [(4,v20)]∧OA (RI .u8) c v20 p o) e w) x_) ?_ ?_ ?_))))))))))
 ·clear s R;intro a j3 b1 f2 H;revert b1 f2;rintro A D ⟨v0,p2,_,rfl,u2,rfl,v18,h,E,rfl,S⟩;refine W.seq (sr (va (I a.2) (va (.string d) (vr (I (aR d)) (rx (by kernel_rfl) (cE (ty:=3) u_9 _)) (va (B (decide (a.2 < (aR d)))) (wln (cn H (fun f1 H=>?_) (fun f1 H=>?_))))))))
  ·refine W.skip (nrm (W.seq (W.block (W.seq (rD [] (Kp G0 []) E ?_)))));intro w0 v2 g0;have f3:Kp G0 [] w0:=Kp.nil0;refine ta 0 (.string d) (ta 1 (I a.2) (bn H fun y g1 H=>AC.take 2 (.int .u8 y) rfl (by kernel_rfl) (by kernel_rfl) (fun c' b2=>(rx (by kernel_rfl) (cP (k:= .i64) u_9 g1 _))) (ta 4 (.string d) (ta 5 (I a.2) (ta 6 (I (w64 (a.2+1))) (bn H fun z i1 H=>AC.take 7 (.int .u8 z) rfl (by kernel_rfl) (by kernel_rfl) (fun c' b2=>(rx (by kernel_rfl) (cP (k:= .i64) u_9 i1 _))) (bn H fun b j1 H=>o1 3 (gc 3 (eO g0 (⟨#[48,49,50,51,52,53,54,55,56,57,97,98,99,100,101,102]⟩:ByteArray) y j1) ?_))))))));rintro v43 x0 w2 ⟨h0,rfl⟩;have c2:Kp G0 [] x0:=Kp.nil0;refine ⟨.inr c2,bn H fun f m1 H=>o1 8 (gc 8 (eO h0 (⟨#[48,49,50,51,52,53,54,55,56,57,97,98,99,100,101,102]⟩:ByteArray) z m1) ?_)⟩;rintro v51 n x2 ⟨M,rfl⟩;have d2:Kp G0 [] n:=Kp.nil0;refine ⟨.inr d2,ta 9 (I b) (ta 10 (I f) (dn (nrm (W.seq (W.seq (bn H fun a0 T H=>W.join (Jn n fun c l=>Own c G (es true (RI .u8) v18 5 h a.1 :: F)∧l= [(0,.string d),(4,v18),(5,I a.2),(6,I b),(7,I f),(39,B a0)]) ?_ ?_))))))⟩
   ·clear H;refine W.region (va (I b) (va (B (decide (b < 0))) ?_));rcases bo (decide (b < 0)) with g | g
    ·obtain rfl:=orT g T;exact vb g (pz (va (B true) (wln (jn n ⟨M,rfl⟩))))
    have e0:=orF g T;refine vb g (wa (I f) (wa (B (decide (f < 0))) ?_));obtain rfl:=si e0;exact va (B (decide (f < 0))) (wln (jn n ⟨M,rfl⟩))
   rintro A D ⟨P,q2,_,rfl,z2,rfl,N,rfl⟩;refine nrm (cn H (fun n1 H=>?_) (fun n1 H=>?_))
   ·refine sr (va (Y) (va (B false) (wln (W.ret (thr (bkr (thr ?_)))))));obtain rfl:=si H;refine ⟨_,rfl,⟨rfl,?_⟩⟩;have p1:OA (RI .u8) P (Y) [] []:=OA.nil (be _);have i0:=N.addHole (e:=es true (RI .u8) (Y) 5 [] ([]:List Int)) rfl;have j0:=i0.sD 2 [0];exact jn P ⟨(Y),[],j0,rfl,p1⟩
   refine W.skip (nrm (W.region (va (v18) (va (I b) (va (I (w64 (b * 2 ^ 4))) (va (I f) (va (I (lG .i64 (w64 (b * 2 ^ 4)) f)) (va (.int .u8 (IntKind.u8.wrap (lG .i64 (w64 (b * 2 ^ 4)) f))) (me (sl (RI .u8) 5 [[.int .u8 (IntKind.u8.wrap (lG .i64 (w64 (b * 2 ^ 4)) f))]] ([(IntKind.u8.wrap (lG .i64 (w64 (b * 2 ^ 4)) f))]:List Int) N ⟨rfl,trivial⟩) ?_)))))))));rintro i3 n2 a3 ⟨g3,k0,q1⟩;obtain ⟨o2,t1,b3,l0,s1⟩:=k0.frz 0 rfl q1;refine WL.gh t1 (bn H fun m2 u1 H=>me (ap (RI .u8) (.int .u8 0) 1 36 1 l0 S.m s1 u1 dU) ?_);rintro U y0 c3 ⟨e2,m0,v1⟩;refine va (U) (WL.nil (bkn (nrm (W.region (va (I a.2) (vv (I (w64 (a.2+2))) (WL.nil ?_)))))));obtain rfl:=si H;refine ⟨_,rfl,?_⟩;have o0:=m0.sD 2 [1];exact jn y0 ⟨U,e2,o0,rfl,v1⟩
  refine W.exit (thx ?_);obtain rfl:=si H;exact ⟨_,rfl,rfl,jn v0 ⟨v18,h,E,rfl,S⟩⟩
 ·have w1:OA (RI .u8) i (Y) [] []:=OA.nil (be _);have q0:=O9.addHole (e:=es true (RI .u8) (Y) 5 [] ([]:List Int)) rfl;exact jn i ⟨(Y),[],q0,rfl,w1⟩
 rcases j with j | j
 ·intro c1; revert c1;rintro _ A D ⟨rfl,z0,s2,_,rfl,d3,rfl,v22,q,s0,rfl,x1⟩;refine bkr (thr ?_);obtain rfl:=si s;exact r2 (qq z0 ⟨v22,q,s0,rfl,x1⟩)
 rintro _ A D ⟨rfl,a1,t2,_,rfl,e3,rfl,v20,p,u0,rfl,z1⟩;refine bke (nrm (sr (vv (v20) (va (B true) (wln (W.ret ?_))))));obtain rfl:=si s;exact r2 (qq a1 ⟨v20,p,u0,rfl,z1⟩)
def cB (p0:List ByteArray):Option (aj×Er):=
 if (decide ((p0.length:Int) < 2))=true then
 (aM 1).bind fun e=>
 some ((⟨0,0,0,([]:List Int)⟩:aj),e)
 else
 (idx p0 1).bind fun b=>
 (dj b).bind fun a=>
 if (!a.2)=true then
 (aM 1).bind fun c=>
 some ((⟨0,0,0,([]:List Int)⟩:aj),c)
 else
 if (decide ((p0.length:Int) > 2))=true then
 (aM 2).bind fun d=>
 some ((⟨0,0,0,([]:List Int)⟩:aj),d)
 else
 some ((⟨0,0,0,a.1⟩:aj),Er.nil)
theorem jZ (O0:Own c0 G F) (hG:Gl [5] c0) (l:List ByteArray) {r:aj×Er} (n:Sl RS c0 v1 l) (H:cB l=some r): Calls prog 46 #[v1] c0.w (bG c0 fun c v=>∃y y2 y3,Own c G (es true (RI .u8) y 5 y2 r.1.Bytes :: F)∧v= .tuple #[.agg #[I r.1.Kind,I r.1.A,I r.1.B,y],y3]∧OA (RI .u8) c y y2 r.1.Bytes∧RE 230 87 c y3 r.2):=by
 unfold cB at H;refine en func46 rfl rfl (sr (me (al 38 [I 0,I 0,I 0,Y] O0) ?_));rintro v6 c5 l5 ⟨b3,rfl,M⟩;refine va (.nilIface) (wln (W.seq (sr (va (v1) (vx (ln 3 fv n.m) (va (B (decide ((l.length:Int) < 2))) (wln (cn H (fun h7 H=>?_) (fun h7 H=>?_)))))))))
 ·refine sr (va (.agg #[I 0,I 0,I 0,Y]) (bn H fun n1 h8 H=>cl (bP M (hG.m.le (by decide)) 1 h8) ?_));rintro v9 a1 e1 ⟨_,z,rfl,Z⟩;refine md (sA 38 [I 0,I 0,I 0,Y] 0 z ⟨rfl,rfl,rfl,rfl,trivial⟩) ?_;rintro h f1 D;refine va (v9) (wln (W.ret (thr ?_)));obtain rfl:=si H;have a0:OA (RI .u8) h (Y) [] []:=OA.nil (be _);have o:=D.addHole (e:=es true (RI .u8) (Y) 5 [] ([]:List Int)) rfl;have E:=o.sD 2 [0];exact er (c:=h) (vs:=[I 0,I 0,I 0,Y]) (v:=v9) rfl (by kernel_rfl) (by kernel_rfl) (by kernel_rfl) (by kernel_rfl) (o.on 1 rfl _ rfl).1 ⟨_,h,rfl,rfl,pt,(Y),[],v9,E,rfl,a0,Z.m⟩
 refine W.skip (nrm (sr (va (v1) (bn H fun x u H=>?_))));obtain ⟨x0,b0,m0⟩:=Sl.at (n.mono l5) (bS u);obtain rfl:=b0;refine vx (ix fv n.m u) (vx (l1 u_9 (m0 0 _ rfl)) (bn H fun a d0 H=>cl (kL M x d0) ?_));rintro v35 b1 g1 ⟨v27,o0,g,rfl,k⟩;refine va (.tuple #[v27,B a.2]) (va (v27) (va (B a.2) (va (v27) (va (B a.2) (wln (W.seq (W.block (sr (va (B a.2) (vv (B (!a.2)) (wln (cn H (fun e0 H=>?_) (fun e0 H=>?_)))))))))))))
 ·refine sr (va (.agg #[I 0,I 0,I 0,Y]) (bn H fun y0 f0 H=>cl (bP g (hG.m.le (by decide)) 1 f0) ?_));rintro v38 c1 h1 ⟨_,N,rfl,g0⟩;refine md (sA 38 [I 0,I 0,I 0,Y] 1 N ⟨rfl,rfl,rfl,rfl,trivial⟩) ?_;rintro i i1 P;refine va (v38) (wln (W.ret (bkr (thr ?_))));obtain rfl:=si H;have h0:OA (RI .u8) i (Y) [] []:=OA.nil (be _);have p:=P.addHole (e:=es true (RI .u8) (Y) 5 [] ([]:List Int)) rfl;have R:=p.sD 3 [0];exact er (c:=i) (vs:=[I 0,I 0,I 0,Y]) (v:=v38) rfl (by kernel_rfl) (by kernel_rfl) (by kernel_rfl) (by kernel_rfl) (p.on 2 rfl _ rfl).1 ⟨_,i,rfl,rfl,pt,(Y),[],v38,R,rfl,h0,g0.m⟩
 refine sr (va (v1) (vx (ln 3 fv n.m) (vv (B (decide ((l.length:Int) > 2))) (wln (cn H (fun i0 H=>?_) (fun i0 H=>?_))))))
 ·refine sr (va (.agg #[I 0,I 0,I 0,Y]) (bn H fun z0 j0 H=>cl (bP g (hG.m.le (by decide)) 2 j0) ?_));rintro v53 d1 j1 ⟨_,S,rfl,k0⟩;refine md (sA 38 [I 0,I 0,I 0,Y] 1 S ⟨rfl,rfl,rfl,rfl,trivial⟩) ?_;rintro j k1 T;refine va (v53) (wln (W.ret (bkr (thr ?_))));obtain rfl:=si H;have l0:OA (RI .u8) j (Y) [] []:=OA.nil (be _);have q:=T.addHole (e:=es true (RI .u8) (Y) 5 [] ([]:List Int)) rfl;have U:=q.sD 3 [0];exact er (c:=j) (vs:=[I 0,I 0,I 0,Y]) (v:=v53) rfl (by kernel_rfl) (by kernel_rfl) (by kernel_rfl) (by kernel_rfl) (q.on 2 rfl _ rfl).1 ⟨_,j,rfl,rfl,pt,(Y),[],v53,U,rfl,l0,k0.m⟩
 refine W.skip (bkn (nrm (sr (va (v27) ?_))));obtain ⟨b,d,f,rfl⟩:=(k).form;refine va (.agg #[I 0,I 0,I 0,.slice b d f]) (md (sA 38 [I 0,I 0,I 0,.slice b d f] 1 g ⟨rfl,rfl,rfl,(k).one,trivial⟩) ?_);rintro t m1 s;refine va (.nilIface) (wln (W.ret ?_));obtain rfl:=si H;have X:=s.sD 2 [0];exact er (c:=t) (vs:=[I 0,I 0,I 0,.slice b d f]) (v:= .nilIface) rfl (by kernel_rfl) (by kernel_rfl) (by kernel_rfl) (by kernel_rfl) (s.on 1 rfl _ rfl).1 ⟨_,t,rfl,rfl,pt,(.slice b d f),o0,.nilIface,X,rfl,k.m,rfl⟩
def cQ (p0:List ByteArray):Option (aj×Er):=
 (orE (decide ((p0.length:Int) < 2)) ((idx p0 1).bind fun b=>
 (bW (!(eqS b (⟨#[111,110]⟩:ByteArray))) ((idx p0 1).bind fun c=>
 some (!(eqS c (⟨#[111,102,102]⟩:ByteArray))))).bind fun a=>
 some a)).bind fun g=>
 if g=true then
 (aM 1).bind fun d=>
 some ((⟨0,0,0,([]:List Int)⟩:aj),d)
 else
 if (decide ((p0.length:Int) > 2))=true then
 (aM 2).bind fun e=>
 some ((⟨0,0,0,([]:List Int)⟩:aj),e)
 else
 (idx p0 1).bind fun f=>
 if (eqS f (⟨#[111,110]⟩:ByteArray))=true then
 some ((⟨12,1,0,([]:List Int)⟩:aj),Er.nil)
 else
 some ((⟨12,0,0,([]:List Int)⟩:aj),Er.nil)
theorem jX (O0:Own c0 G F) (hG:Gl [5] c0) (h:List ByteArray) {r:aj×Er} (d:Sl RS c0 v1 h) (H:cQ h=some r): Calls prog 47 #[v1] c0.w (bG c0 fun c v=>∃S y2 y3,Own c G (es true (RI .u8) S 5 y2 r.1.Bytes :: F)∧v= .tuple #[.agg #[I r.1.Kind,I r.1.A,I r.1.B,S],y3]∧OA (RI .u8) c S y2 r.1.Bytes∧RE 230 87 c y3 r.2):=by
 unfold cQ at H;refine en func47 rfl rfl (sr (me (al 38 [I 0,I 0,I 0,Y] O0) ?_));rintro v6 t R ⟨b3,rfl,P⟩;refine va (.nilIface) (wln (W.seq (W.block (W.seq (bn H fun i0 h7 H=>W.join (Jn t fun c l=>Own c G ((Eb b3 38 [I 0,I 0,I 0,Y]) :: F)∧l= [(0,v1),(2,Q b3),(4,B i0)]) ?_ ?_)))))
 ·clear H;refine W.region (va (v1) (vx (ln 3 fv d.m) (va (B (decide ((h.length:Int) < 2))) ?_)));rcases bo (decide ((h.length:Int) < 2)) with p | p
  ·obtain rfl:=orT p h7;exact vb p (pz (pz (pz (pz (pz (vv (B true) (wln (jn t ⟨P,rfl⟩))))))))
  have g:=orF p h7;refine vb p (wa (v1) (wn (bn g fun q D g=>?_)));obtain ⟨j1,j0,c1⟩:=Sl.at (d.mono R) (bS D);obtain rfl:=j0;refine vx (ix fv d.m D) (wn (vx (l1 u_9 (c1 0 _ rfl)) (wn (vr (B (!(eqS q (⟨#[111,110]⟩:ByteArray)))) (eV (by kernel_rfl)) (wn (bn g fun i1 E g=>?_))))));rcases bo (!(eqS q (⟨#[111,110]⟩:ByteArray))) with b | b
  ·have i:=anT b E;refine vb b (wa (v1) (wn (bn i fun a M i=>?_)));obtain ⟨k1,k0,d1⟩:=Sl.at (d.mono R) (bS M);obtain rfl:=k0;refine vx (ix fv d.m M) (wn (vx (l1 u_9 (d1 0 _ rfl)) (wn (vr (B (!(eqS a (⟨#[111,102,102]⟩:ByteArray)))) (eV (by kernel_rfl)) (wn ?_)))));obtain rfl:=si i;refine va (B (!(eqS a (⟨#[111,102,102]⟩:ByteArray)))) ?_;obtain rfl:=si g;exact vv (B (!(eqS a (⟨#[111,102,102]⟩:ByteArray)))) (wln (jn t ⟨P,rfl⟩))
  obtain rfl:=anF b E;refine vb b (pz (pz (wa (B false) ?_)));obtain rfl:=si g;exact vv (B false) (wln (jn t ⟨P,rfl⟩))
 rintro e_ w_ ⟨q1,u1,_,rfl,b1,rfl,f,rfl⟩;refine nrm (cn H (fun l0 H=>?_) (fun l0 H=>?_))
 ·refine sr (va (.agg #[I 0,I 0,I 0,Y]) (bn H fun n1 m0 H=>cl (bP f (hG.m.le (by decide)) 1 m0) ?_));rintro v29 s1 w1 ⟨_,T,rfl,o0⟩;refine md (sA 38 [I 0,I 0,I 0,Y] 0 T ⟨rfl,rfl,rfl,rfl,trivial⟩) ?_;rintro j x1 U;refine va (v29) (wln (W.ret (bkr (thr ?_))));obtain rfl:=si H;have q0:OA (RI .u8) j (Y) [] []:=OA.nil (be _);have u:=U.addHole (e:=es true (RI .u8) (Y) 5 [] ([]:List Int)) rfl;have X:=u.sD 2 [0];exact er (c:=j) (vs:=[I 0,I 0,I 0,Y]) (v:=v29) rfl (by kernel_rfl) (by kernel_rfl) (by kernel_rfl) (by kernel_rfl) (u.on 1 rfl _ rfl).1 ⟨_,j,rfl,rfl,pt,(Y),[],v29,X,rfl,q0,o0.m⟩
 refine sr (va (v1) (vx (ln 3 fv d.m) (vv (B (decide ((h.length:Int) > 2))) (wln (cn H (fun s0 H=>?_) (fun s0 H=>?_))))))
 ·refine sr (va (.agg #[I 0,I 0,I 0,Y]) (bn H fun p1 t0 H=>cl (bP f (hG.m.le (by decide)) 2 t0) ?_));rintro v44 t1 z1 ⟨_,Z,rfl,u0⟩;refine md (sA 38 [I 0,I 0,I 0,Y] 0 Z ⟨rfl,rfl,rfl,rfl,trivial⟩) ?_;rintro k b2 a0;refine va (v44) (wln (W.ret (bkr (thr ?_))));obtain rfl:=si H;have v0:OA (RI .u8) k (Y) [] []:=OA.nil (be _);have x:=a0.addHole (e:=es true (RI .u8) (Y) 5 [] ([]:List Int)) rfl;have b0:=x.sD 2 [0];exact er (c:=k) (vs:=[I 0,I 0,I 0,Y]) (v:=v44) rfl (by kernel_rfl) (by kernel_rfl) (by kernel_rfl) (by kernel_rfl) (x.on 1 rfl _ rfl).1 ⟨_,k,rfl,rfl,pt,(Y),[],v44,b0,rfl,v0,u0.m⟩
 refine sr (va (v1) (bn H fun s N H=>?_));obtain ⟨m1,w0,e1⟩:=Sl.at (d.mono (R.trans b1)) (bS N);obtain rfl:=w0;refine vx (ix fv d.m N) (vx (l1 u_9 (e1 0 _ rfl)) (vr (B (eqS s (⟨#[111,110]⟩:ByteArray))) (ed (by kernel_rfl)) (va (B (eqS s (⟨#[111,110]⟩:ByteArray))) (wln (cn H (fun x0 H=>?_) (fun x0 H=>?_))))))
 ·refine sr (va (.agg #[I 12,I 1,I 0,Y]) (md (sA 38 [I 12,I 1,I 0,Y] 0 f ⟨rfl,rfl,rfl,rfl,trivial⟩) ?_));rintro n c2 d0;refine va (.nilIface) (wln (W.ret (bkr (thr ?_))));obtain rfl:=si H;have y0:OA (RI .u8) n (Y) [] []:=OA.nil (be _);have y:=d0.addHole (e:=es true (RI .u8) (Y) 5 [] ([]:List Int)) rfl;have e0:=y.sD 2 [0];exact er (c:=n) (vs:=[I 12,I 1,I 0,Y]) (v:= .nilIface) rfl (by kernel_rfl) (by kernel_rfl) (by kernel_rfl) (by kernel_rfl) (y.on 1 rfl _ rfl).1 ⟨_,n,rfl,rfl,pt,(Y),[],.nilIface,e0,rfl,y0,rfl⟩
 refine W.skip (bkn (nrm (sr (va (.agg #[I 12,I 0,I 0,Y]) (md (sA 38 [I 12,I 0,I 0,Y] 0 f ⟨rfl,rfl,rfl,rfl,trivial⟩) ?_)))));rintro o d2 f0;refine va (.nilIface) (wln (W.ret ?_));obtain rfl:=si H;have a1:OA (RI .u8) o (Y) [] []:=OA.nil (be _);have z:=f0.addHole (e:=es true (RI .u8) (Y) 5 [] ([]:List Int)) rfl;have g0:=z.sD 2 [0];exact er (c:=o) (vs:=[I 12,I 0,I 0,Y]) (v:= .nilIface) rfl (by kernel_rfl) (by kernel_rfl) (by kernel_rfl) (by kernel_rfl) (z.on 1 rfl _ rfl).1 ⟨_,o,rfl,rfl,pt,(Y),[],.nilIface,g0,rfl,a1,rfl⟩
def cK (p0:List ByteArray) (p1:List ByteArray):Option (Int):=
 (cT (σ:=Int) (τ:=Int) (((p1.length:Int) - 0).toNat+1) (fun a=>
 (bW (decide (a < (p1.length:Int))) (some (decide (a < (p0.length:Int))))).bind fun b=>
 (bW b ((idx p0 a).bind fun d=>
 (idx p1 a).bind fun e=>
 some (eqS d e))).bind fun c=>
 if c=true then
 some (.inl ((w64 (a+1))))
 else
 some (.inr (a))) (0)).bind fun f=>
 some f
theorem iU (O0:Own c0 G F) (n:List ByteArray) (q:List ByteArray) {r:Int} (M:Sl RS c0 v1 n) (N:Sl RS c0 v3 q) (H:cK n q=some r): Calls prog 71 #[v1,v3] c0.w (bG c0 fun c v=>Own c G (F)∧v=I r):=by
 unfold cK at H;refine en func71 rfl rfl (sr (va (I 0) (wln (sr (va (I 0) (wln (W.seq (W.block (bn H fun D h5 S=>lp h5 (fun a=>Jn c0 fun c l=>Own c G (F)∧l= [(0,v1),(1,v3),(5,I a)]) (fun P ex e w=>ex= .exit 0∧(Jn c0 fun c l=>Own c G (F)∧l= [(5,I P)]) e w) ?_ ?_ ?_)))))))))
 ·clear S h5;intro a y0 Z j0 H;revert Z j0;rintro X w_ ⟨c7,g8,_,rfl,l7,rfl,O9,rfl⟩;refine W.seq (W.seq (bn H fun o0 u H=>bn H fun E k H=>W.join (Jn c7 fun c l=>Own c G (F)∧l= [(0,v1),(1,v3),(5,I a),(26,B E)]) ?_ ?_))
  ·clear H;refine rD [] (Kp G0 []) O9 ?_;intro i A j;have x0:Kp G0 [] i:=Kp.nil0;refine ta 0 (I a) (ta 1 (v3) (tx 2 (fun d b=>ln 3 fv N.m) (ta 3 (B (decide (a < (q.length:Int)))) ?_)));rcases bo (decide (a < (q.length:Int))) with g | g
   ·have R:=anT g u;refine AC.takeb 4 g rfl (by kernel_rfl) (by kernel_rfl) (fun d b=>(by kernel_rfl)) (ta 5 (I a) (ta 6 (v1) (tx 7 (fun d b=>ln 3 fv M.m) (ta 8 (B (decide (a < (n.length:Int)))) ?_))));obtain rfl:=si R;refine ta 9 (B (decide (a < (n.length:Int)))) ?_;rcases bo (decide (a < (n.length:Int))) with h | h
    ·have f:=anT h k;refine bn f fun o x f=>bn f fun p y f=>AC.takeb 10 h rfl (by kernel_rfl) (by kernel_rfl) (fun d b=>(by kernel_rfl)) (ta 11 (v1) (ta 12 (I a) ?_));obtain ⟨q0,a0,g0⟩:=Sl.at (M.mono (l7.trans A)) (bS x);obtain rfl:=a0;refine tx 13 (fun d b=>ix fv M.m x) (tx 14 (fun d b=>l1 u_9 ((mm g0) 0 _ rfl)) (ta 15 (v3) (ta 16 (I a) ?_)));obtain ⟨s0,b0,h0⟩:=Sl.at (N.mono (l7.trans A)) (bS y);obtain rfl:=b0;refine tx 17 (fun d b=>ix fv N.m y) (tx 18 (fun d b=>l1 u_9 ((mm h0) 0 _ rfl)) (AC.take 19 (B (eqS o p)) rfl (by kernel_rfl) (by kernel_rfl) (fun d b=>(ed (by kernel_rfl))) ?_));obtain rfl:=si f;exact ta 20 (B (eqS o p)) (dn (nrm (jn i ⟨j,rfl⟩)))
    obtain rfl:=anF h k;exact AC.takeb 10 h rfl (by kernel_rfl) (by kernel_rfl) (fun d b=>(by kernel_rfl)) (tp 11 (tp 12 (tp 13 (tp 14 (tp 15 (tp 16 (tp 17 (tp 18 (tp 19 (ta 20 (B false) (dn (nrm (jn i ⟨j,rfl⟩)))))))))))))
   obtain rfl:=anF g u;refine AC.takeb 4 g rfl (by kernel_rfl) (by kernel_rfl) (fun d b=>(by kernel_rfl)) (tp 5 (tp 6 (tp 7 (tp 8 (ta 9 (B false) ?_)))));have z:false=false:=rfl;obtain rfl:=anF z k;exact AC.takeb 10 z rfl (by kernel_rfl) (by kernel_rfl) (fun d b=>(by kernel_rfl)) (tp 11 (tp 12 (tp 13 (tp 14 (tp 15 (tp 16 (tp 17 (tp 18 (tp 19 (ta 20 (B false) (dn (nrm (jn i ⟨j,rfl⟩)))))))))))))
  rintro X w_ ⟨t,t0,_,rfl,v0,rfl,s,rfl⟩;refine nrm (cn H (fun d0 H=>?_) (fun d0 H=>?_))
  ·refine W.skip (nrm (W.block (W.region (va (I a) (vv (I (w64 (a+1))) (WL.nil (bkn ?_)))))));obtain rfl:=si H;exact ⟨_,rfl,jn t ⟨s,rfl⟩⟩
  refine W.exit (thx ?_);obtain rfl:=si H;exact ⟨_,rfl,rfl,jn t ⟨s,rfl⟩⟩
 ·exact jn c0 ⟨O0,rfl⟩
 rintro _ X w_ ⟨rfl,U,u0,_,rfl,w0,rfl,T,rfl⟩;refine bke (nrm (sr (vv (I D) (wln (W.ret ?_)))));obtain rfl:=si S;exact r1 (qq U ⟨T,rfl⟩)
def dE (p0:List ByteArray):Option (Int×Int×Bool):=
 (cT (σ:=Int×Int) (τ:=(Int×Int×Bool) ⊕ Int) (((13:Int) - 1).toNat+2) (fun a=>
 if (decide (a.2≤13))=true then
 (bh a.2).bind fun c=>
 (cK p0 c.1).bind fun d=>
 (bW (decide ((c.1.length:Int) > 0)) (some (d==(c.1.length:Int)))).bind fun e=>
 if e=true then
 some (.inr (.inl (a.2,d,true)))
 else
 some (.inl ((ny a.1 d),(w64 (a.2+1))))
 else
 some (.inr (.inr (a.1)))) (0,1)).bind fun b=>
 match b with
 | .inl b=>
 some b
 | .inr b=>
 some (0,b,false)
theorem jY (O0:Own c0 G F) (y:List ByteArray) {r:Int×Int×Bool} (h2:Sl RS c0 v1 y) (H:dE y=some r): Calls prog 48 #[v1] c0.w (bG c0 fun c v=>Own c G (F)∧v= .tuple #[I r.1,I r.2.1,B r.2.2]):=by
 unfold dE at H;refine en func48 rfl rfl (sr (vv (I 0) (va (B false) (wln (sr (va (I 0) (wln (W.seq (sr (va (I 1) (wln (W.block (bn H fun g h3 q=>lp h3 (fun a=>Jn c0 fun c l=>Own c G (F)∧l= [(0,v1),(5,I a.1),(6,I a.2)]) (fun t=>match t with | .inl A=>(fun j ex e w=>ex= .ret∧(Jn c0 fun c l=>Own c G (F)∧l= [(2,I j.1),(3,I j.2.1),(4,B j.2.2)]) e w) A | .inr A=>(fun x ex e w=>ex= .exit 0∧(Jn c0 fun c l=>Own c G (F)∧l= [(5,I x)]) e w) A) ?_ ?_ ?_)))))))))))))
 ·clear q h3;intro a c1 Z k0 H;revert Z k0;rintro u z ⟨c5,g6,_,rfl,l5,rfl,T,rfl⟩;refine W.seq (sr (va (I a.2) (va (B (decide (a.2≤13))) (wln (cn H (fun b0 H=>?_) (fun b0 H=>?_))))))
  ·refine W.skip (nrm (W.seq (W.block (sr (va (I a.2) (bn H fun d d0 H=>cl (eA T a.2 d0) ?_))))));rintro v22 q0 w0 ⟨v13,j0,E,rfl,i,d1⟩;refine va (.tuple #[v13,I d.2]) (va (v13) (va (I d.2) (va (v13) (va (I d.2) (wln (sr (va (v1) (va (v13) ?_))))))));obtain ⟨s0,f0,x0,M,e0⟩:=E.frz 0 rfl i;refine WL.gh f0 (bn H fun b g0 H=>cl (iU M y d.1 h2.m e0 g0) ?_);rintro v33 h y0 ⟨k,rfl⟩;refine va (I b) (wln (W.seq (W.seq (bn H fun s p H=>W.join (Jn h fun c l=>Own c G (es false RS v13 9 j0 d.1 :: F)∧l= [(0,v1),(5,I a.1),(6,I a.2),(9,I b),(30,B s)]) ?_ ?_))))
   ·clear H;refine W.region (va (v13) (vx (lnO 3 fv i.m) (va (B (decide ((d.1.length:Int) > 0))) ?_)));rcases bo (decide ((d.1.length:Int) > 0)) with f | f
    ·have D:=anT f p;refine vb f (wa (I b) (wa (v13) (wn (vx (lnO 3 fv i.m) (wa (B (b==(d.1.length:Int))) ?_)))));obtain rfl:=si D;exact va (B (b==(d.1.length:Int))) (wln (jn h ⟨k,rfl⟩))
    obtain rfl:=anF f p;exact vb f (pz (pz (va (B false) (wln (jn h ⟨k,rfl⟩)))))
   rintro u z ⟨o,t0,_,rfl,z0,rfl,n,rfl⟩;refine nrm (cn H (fun i0 H=>?_) (fun i0 H=>?_))
   ·refine sr (va (I a.2) (va (I b) (va (I a.2) (va (I b) (va (B true) (wln (W.ret (thr (bkr (thr ?_))))))))));obtain rfl:=si H;refine ⟨_,rfl,⟨rfl,?_⟩⟩;have N:=n.sD 1 [];exact jn o ⟨N,rfl⟩
   refine W.skip (nrm (W.region (va (I a.1) (va (I b) (vv (I (ny a.1 b)) (WL.nil (bkn (nrm (W.region (va (I a.2) (vv (I (w64 (a.2+1))) (WL.nil ?_))))))))))));obtain rfl:=si H;refine ⟨_,rfl,?_⟩;have P:=n.sD 1 [];exact jn o ⟨P,rfl⟩
  refine W.exit (thx ?_);obtain rfl:=si H;exact ⟨_,rfl,rfl,jn c5 ⟨T,rfl⟩⟩
 ·exact jn c0 ⟨O0,rfl⟩
 rcases g with g | g
 ·intro a0; revert a0;rintro _ u z ⟨rfl,U,u0,_,rfl,a1,rfl,R,rfl⟩;refine bkr (thr ?_);obtain rfl:=si q;exact r3 (qq U ⟨R,rfl⟩)
 rintro _ u z ⟨rfl,X,v0,_,rfl,b1,rfl,S,rfl⟩;refine bke (nrm (sr (va (I g) (va (I 0) (va (I g) (va (B false) (wln (W.ret ?_))))))));obtain rfl:=si q;exact r3 (qq X ⟨S,rfl⟩)
def bu (p0:ByteArray):Option (Int×Bool):=
 (cw p0 (⟨#[45]⟩:ByteArray)).bind fun a=>
 (orE ((aR a.1)==0) (some (decide ((aR a.1) > 9)))).bind fun c=>
 (orE c ((eU a.1 0).bind fun g=>
 (bW (g==48) (some (decide ((aR p0) > 1)))).bind fun e=>
 some e)).bind fun d=>
 (orE d ((cZ a.1 (⟨#[48,49,50,51,52,53,54,55,56,57]⟩:ByteArray)).bind fun h=>
 some (!(eqS h (⟨#[]⟩:ByteArray))))).bind fun f=>
 if f=true then
 some (0,false)
 else
 (dO a.1).bind fun b=>
 (if a.2=true then
 some ((w64 (0 - b.1)))
 else
 some (b.1)).bind fun i=>
 some (i,b.2.isNil)
theorem iT (O0:Own c0 G F) (hT:Et c0) (e:ByteArray) {r:Int×Bool} (H:bu e=some r): Calls prog 72 #[.string e] c0.w (bG c0 fun c v=>Own c G (F)∧v= .tuple #[I r.1,B r.2]):=by
 unfold bu at H;refine en func72 rfl rfl (sr (va (I 0) (va (B false) (wln (sr (va (.string e) (bn H fun a h1 H=>cl (gv O0 e (⟨#[45]⟩:ByteArray) h1) ?_)))))));rintro v7 A l6 ⟨u,rfl⟩;refine va (.tuple #[.string a.1,B a.2]) (va (.string a.1) (va (B a.2) (va (.string a.1) (va (B a.2) (wln (W.seq (W.seq (bn H fun x0 h8 H=>bn H fun y0 X H=>bn H fun U h H=>W.join (Jn A fun c l=>Own c G (F)∧l= [(4,.string a.1),(5,B a.2),(35,B U)]) ?_ ?_))))))))
 ·clear H;refine W.region (va (.string a.1) (vr (I (aR a.1)) (rx (by kernel_rfl) (cE (ty:=3) u_9 _)) (va (B ((aR a.1)==0)) ?_)));rcases bo ((aR a.1)==0) with i | i
  ·obtain rfl:=orT i h8;refine vb i (pz (ps (va (B true) ?_)));have N:true=true:=rfl;obtain rfl:=orT N X;refine vb N (pz (pz (pz (pz (va (B true) ?_)))));have P:true=true:=rfl;obtain rfl:=orT P h;exact vb P (pz (ps (va (B true) (wln (jn A ⟨u,rfl⟩)))))
  have Z:=orF i h8;refine vb i (wa (.string a.1) (wn (vr (I (aR a.1)) (rx (by kernel_rfl) (cE (ty:=3) u_9 _)) (wa (B (decide ((aR a.1) > 9))) ?_))));obtain rfl:=si Z;refine va (B (decide ((aR a.1) > 9))) ?_;rcases bo (decide ((aR a.1) > 9)) with j | j
  ·obtain rfl:=orT j X;refine vb j (pz (pz (pz (pz (va (B true) ?_)))));have R:true=true:=rfl;obtain rfl:=orT R h;exact vb R (pz (ps (va (B true) (wln (jn A ⟨u,rfl⟩)))))
  have f:=orF j X;refine vb j (wa (.string a.1) (wn (bn f fun p k0 f=>vr (.int .u8 p) (rx (by kernel_rfl) (cP (k:= .i64) u_9 k0 _)) (wa (B (p==48)) (wn (bn f fun z0 S f=>?_))))));rcases bo (p==48) with n | n
  ·have a0:=anT n S;refine vb n (wa (.string e) (wn (vr (I (aR e)) (rx (by kernel_rfl) (cE (ty:=3) u_9 _)) (wa (B (decide ((aR e) > 1))) (wn ?_)))));obtain rfl:=si a0;refine va (B (decide ((aR e) > 1))) ?_;obtain rfl:=si f;refine va (B (decide ((aR e) > 1))) ?_;rcases bo (decide ((aR e) > 1)) with o | o
   ·obtain rfl:=orT o h;exact vb o (pz (ps (va (B true) (wln (jn A ⟨u,rfl⟩)))))
   have s:=orF o h;refine vb o (wa (.string a.1) (wn (bn s fun d l0 s=>cl (gf u hT.m a.1 (⟨#[48,49,50,51,52,53,54,55,56,57]⟩:ByteArray) l0) ?_)));rintro v30 h0 i1 ⟨d0,rfl⟩;refine wn (vr (B (!(eqS d (⟨#[]⟩:ByteArray)))) (eV (by kernel_rfl)) ?_);obtain rfl:=si s;exact va (B (!(eqS d (⟨#[]⟩:ByteArray)))) (wln (jn h0 ⟨d0,rfl⟩))
  obtain rfl:=anF n S;refine vb n (pz (ps (wa (B false) ?_)));obtain rfl:=si f;refine va (B false) ?_;have T:false=false:=rfl;have t:=orF T h;refine vb T (wa (.string a.1) (wn (bn t fun d m0 t=>cl (gf u hT.m a.1 (⟨#[48,49,50,51,52,53,54,55,56,57]⟩:ByteArray) m0) ?_)));rintro v39 i0 j1 ⟨e0,rfl⟩;refine wn (vr (B (!(eqS d (⟨#[]⟩:ByteArray)))) (eV (by kernel_rfl)) ?_);obtain rfl:=si t;exact va (B (!(eqS d (⟨#[]⟩:ByteArray)))) (wln (jn i0 ⟨e0,rfl⟩))
 rintro e_ w_ ⟨j0,e1,_,rfl,k1,rfl,D,rfl⟩;refine nrm (cn H (fun o0 H=>?_) (fun o0 H=>?_))
 ·refine sr (va (I 0) (va (B false) (wln (W.ret (thr ?_)))));obtain rfl:=si H;exact r2 (qq j0 ⟨D,rfl⟩)
 refine W.skip (nrm (sr (va (.string a.1) (bn H fun b q0 H=>cl (jI D hT.m a.1 q0) ?_))));rintro v55 x m1 ⟨v48,E,rfl,s0⟩;refine va (.tuple #[I b.1,v48]) (va (I b.1) (va (v48) (va (I b.1) (va (v48) (wln (bn H fun q g b0=>W.seqJ (Jn x fun c l=>Own c G (F)∧l= [(6,I q),(7,v48)]) ?_ ?_))))))
 ·refine sr (va (B a.2) (wln (cn g (fun t0 g=>?_) (fun t0 g=>?_))))
  ·refine W.region (va (I b.1) (vv (I (w64 (0 - b.1))) (wln ?_)));obtain rfl:=si g;exact jn x ⟨E,rfl⟩
  refine W.skip (nrm ?_);obtain rfl:=si g;exact jn x ⟨E,rfl⟩
 rintro e_ w_ ⟨d1,f1,_,rfl,n1,rfl,f0,rfl⟩;refine W.seq (rD [] (Kp G0 []) f0 ?_);intro M p1 g0;have q1:Kp G0 [] M:=Kp.nil0;refine ta 0 (I q) (ta 1 (v48) (AC.take 2 (B b.2.isNil) rfl (by kernel_rfl) (by kernel_rfl) (fun c' g1=>(by rcases s0.m.cs with ⟨y,z⟩ | ⟨b_,y,z⟩ | ⟨b_,y,z⟩ <;> (subst y; rw [z]; kernel_rfl))) (ta 3 (I q) (ta 4 (B b.2.isNil) (dn (nrm (W.ret ?_)))))));obtain rfl:=si b0;exact r2 (qq M ⟨g0,rfl⟩)
def ci (p0:List ByteArray) (p1:Int) (p2:Int):Option ((Int×Int)×Er):=
 (cT (σ:=Int×Int×Int) (τ:=((Int×Int)×Er) ⊕ (Int×Int)) ((p2 - 0).toNat+1) (fun a=>
 if (decide (a.1 < p2))=true then
 if (decide ((w64 (p1+a.1))≥(p0.length:Int)))=true then
 (aM (p0.length:Int)).bind fun e=>
 some (.inr (.inl ((0,0),e)))
 else
 (idx p0 (w64 (p1+a.1))).bind fun f=>
 (bu f).bind fun c=>
 if (!c.2)=true then
 (aM (w64 (p1+a.1))).bind fun g=>
 some (.inr (.inl ((0,0),g)))
 else
 (idx (a2 a.2) a.1).bind fun i=>
 (some (mr a.2 a.1 c.1)).bind fun d=>
 some (.inl ((w64 (a.1+1)),d.1,d.2))
 else
 some (.inr (.inr (a.2.1,a.2.2)))) (0,0,0)).bind fun b=>
 match b with
 | .inl b=>
 some b
 | .inr b=>
 if (decide ((p0.length:Int) > (w64 (p1+p2))))=true then
 (aM (w64 (p1+p2))).bind fun h=>
 some ((0,0),h)
 else
 some (b,Er.nil)
theorem fG (O0:Own c0 G F) (hG:Gl [5] c0) (hT:Et c0) (x:List ByteArray) (d:Int) (h:Int) {r:(Int×Int)×Er} (s:Sl RS c0 v1 x) (H:ci x d h=some r): Calls prog 50 #[v1,I d,I h] c0.w (bG c0 fun c v=>∃y1,Own c G (F)∧v= .tuple #[.agg #[I r.1.1,I r.1.2],y1]∧RE 230 87 c y1 r.2):=by
 unfold ci at H;refine en func50 rfl rfl (sr (me (al 82 [I 0,I 0] O0) ?_));rintro v6 c5 l5 ⟨n,rfl,O4⟩;refine va (.nilIface) (wln (sr (me (al 82 [I 0,I 0] O4) ?_)));rintro v10 D l9 ⟨q,rfl,O8⟩;refine wln (W.seq (sr (va (I h) (va (I 0) (wln (W.block (bn H fun f X g=>lp X (fun a=>Jn D fun c l=>Own c G ((Eb q 82 [I a.2.1,I a.2.2]) :: (Eb n 82 [I 0,I 0]) :: F)∧l= [(0,v1),(1,I d),(2,I h),(6,Q n),(8,Q q),(12,I h),(13,I a.1)]) (fun t=>match t with | .inl x_=>(fun y ex e w=>ex= .ret∧(Jn D fun c l=>∃v13,Own c G ((Eb n 82 [I y.1.1,I y.1.2]) :: F)∧l= [(6,Q n),(7,v13)]∧RE 230 87 c v13 y.2) e w) x_ | .inr x_=>(fun u ex e w=>ex= .exit 0∧(Jn D fun c l=>Own c G ((Eb q 82 [I u.1,I u.2]) :: (Eb n 82 [I 0,I 0]) :: F)∧l= [(0,v1),(1,I d),(2,I h),(6,Q n),(8,Q q)]) e w) x_) ?_ ?_ ?_)))))))
 ·clear g X;intro a f3 w0 t1 H;revert w0 t1;rintro e_ w_ ⟨q0,o2,_,rfl,n1,rfl,o,rfl⟩;refine sr (va (B (decide (a.1 < h))) (wln (W.seq (cn H (fun y0 H=>?_) (fun y0 H=>?_)))))
  ·refine W.skip (nrm (W.seq (W.block (sr (vv (I a.1) (wln (W.seq (sr (va (I d) (va (I a.1) (va (I (w64 (d+a.1))) (va (v1) (vx (ln 3 fv s.m) (va (B (decide ((w64 (d+a.1))≥(x.length:Int)))) (wln (cn H (fun z0 H=>?_) (fun z0 H=>?_)))))))))))))))))
   ·refine sr (va (III 0 0) (va (v1) (vx (ln 3 fv s.m) (bn H fun e2 a1 H=>cl (bP o (hG.m.le (by decide)) (x.length:Int) a1) ?_))));rintro v23 j2 t2 ⟨_,d0,rfl,b1⟩;refine md (sA 82 [I 0,I 0] 1 d0 ⟨rfl,rfl,trivial⟩) ?_;rintro s0 u2 e0;refine va (v23) (wln (W.ret (thr (bkr (thr ?_)))));obtain rfl:=si H;refine ⟨_,rfl,⟨rfl,?_⟩⟩;have f0:=e0.sD 2 [1];exact jn s0 ⟨v23,f0,rfl,b1.m⟩
   refine W.skip (nrm (sr (va (v1) (va (I d) (va (I a.1) (va (I (w64 (d+a.1))) (bn H fun b0 Z H=>?_)))))));obtain ⟨d2,c1,q1⟩:=Sl.at (s.mono (l5.trans (l9.trans n1))) (bS Z);obtain rfl:=c1;refine vx (ix fv s.m Z) (vx (l1 u_9 (q1 0 _ rfl)) (bn H fun b d1 H=>cl (iT o hT.m b0 d1) ?_));rintro v44 k2 v2 ⟨E,rfl⟩;refine va (.tuple #[I b.1,B b.2]) (va (I b.1) (va (B b.2) (va (I b.1) (va (B b.2) (wln (W.seq (sr (va (B b.2) (va (B (!b.2)) (wln (cn H (fun e1 H=>?_) (fun e1 H=>?_))))))))))))
   ·refine sr (va (III 0 0) (va (I d) (va (I a.1) (va (I (w64 (d+a.1))) (bn H fun f2 f1 H=>cl (bP E (hG.m.le (by decide)) (w64 (d+a.1)) f1) ?_)))));rintro v47 l2 w2 ⟨_,g0,rfl,g1⟩;refine md (sA 82 [I 0,I 0] 1 g0 ⟨rfl,rfl,trivial⟩) ?_;rintro t0 x2 h0;refine va (v47) (wln (W.ret (thr (bkr (thr ?_)))));obtain rfl:=si H;refine ⟨_,rfl,⟨rfl,?_⟩⟩;have i0:=h0.sD 2 [1];exact jn t0 ⟨v47,i0,rfl,g1.m⟩
   refine W.skip (nrm (W.region (va (I a.1) (va (I b.1) (bn H fun g2 i H=>vr (.pointer (some ⟨q,0+a.1.toNat * 1,none⟩)) (rx (by kernel_rfl) (lA (k:= .i64) underlying82 (by kernel_rfl) (iC i).1 (iC i).2 _)) (bn H fun A h1 H=>md (Own.st (T:=3) (j:=0+a.1.toNat * 1) (us:=[I b.1]) (nw:=[I A.1,I A.2]) (v:=I b.1) 0 E (by kernel_rfl) rfl rfl rfl rfl (by kernel_rfl) ⟨rfl,trivial⟩ (qo i (bB rfl)) (qd (k:= .i64) i h1 [] [])) ?_))))));rintro u0 y2 j0;refine WL.nil (bkn (nrm (W.region (vv (I (w64 (a.1+1))) (WL.nil ?_)))));obtain rfl:=si H;exact ⟨_,rfl,jn u0 ⟨j0,rfl⟩⟩
  refine W.exit (thx ?_);obtain rfl:=si H;exact ⟨_,rfl,rfl,jn q0 ⟨o,rfl⟩⟩
 ·exact jn D ⟨O8,rfl⟩
 rcases f with f | f
 ·intro x0; revert x0;rintro _ e_ w_ ⟨rfl,R,q2,_,rfl,z2,rfl,v13,M,rfl,i1⟩;refine bkr (thr ?_);obtain rfl:=si g;have k0:=M.sD 1 [];exact er (c:=R) (vs:=[I f.1.1,I f.1.2]) (v:=v13) rfl (by kernel_rfl) (by kernel_rfl) (by kernel_rfl) (by kernel_rfl) (M.on 0 rfl _ rfl).1 ⟨_,R,rfl,rfl,pt,v13,k0,rfl,i1⟩
 rintro _ e_ w_ ⟨rfl,m2,s2,_,rfl,a3,rfl,p,rfl⟩;refine bke (nrm (W.seq (sr (va (v1) (vx (ln 3 fv s.m) (va (I d) (va (I h) (va (I (w64 (d+h))) (va (B (decide ((x.length:Int) > (w64 (d+h))))) (wln (cn g (fun j1 g=>?_) (fun j1 g=>?_))))))))))))
 ·refine sr (va (III 0 0) (va (I d) (va (I h) (va (I (w64 (d+h))) (bn g fun i2 k1 g=>cl (bP p (hG.m.le (by decide)) (w64 (d+h)) k1) ?_)))));rintro z n2 c3 ⟨_,l0,rfl,m1⟩;refine md (sA 82 [I 0,I 0] 1 l0 ⟨rfl,rfl,trivial⟩) ?_;rintro S d3 N;refine va (z) (wln (W.ret (thr ?_)));obtain rfl:=si g;have m0:=N.sD 2 [];exact er (c:=S) (vs:=[I 0,I 0]) (v:=z) rfl (by kernel_rfl) (by kernel_rfl) (by kernel_rfl) (by kernel_rfl) (N.on 1 rfl _ rfl).1 ⟨_,S,rfl,rfl,pt,z,m0,rfl,m1.m⟩
 refine W.skip (nrm (sr (vx (leN 82 0 [I f.1,I f.2] (p.on 0 rfl)) (md (sA 82 [I f.1,I f.2] 1 p ⟨rfl,rfl,trivial⟩) ?_))));rintro U e3 P;refine va (.nilIface) (wln (W.ret ?_));obtain rfl:=si g;have o0:=P.sD 2 [];exact er (c:=U) (vs:=[I f.1,I f.2]) (v:= .nilIface) rfl (by kernel_rfl) (by kernel_rfl) (by kernel_rfl) (by kernel_rfl) (P.on 1 rfl _ rfl).1 ⟨_,U,rfl,rfl,pt,.nilIface,o0,rfl,rfl⟩
def aC (p0:ByteArray):Option (aj×Er):=
 (cJ p0 (⟨#[32]⟩:ByteArray)).bind fun c=>
 (idx c 0).bind fun f=>
 if (eqS f (⟨#[102,101,101,100]⟩:ByteArray))=true then
 (cB c).bind fun d=>
 some (d.1,d.2)
 else
 if (eqS f (⟨#[119,114,97,112]⟩:ByteArray))=true then
 (cQ c).bind fun e=>
 some (e.1,e.2)
 else
 (dE c).bind fun a=>
 if (!a.2.2)=true then
 (aM a.2.1).bind fun g=>
 some ((⟨0,0,0,([]:List Int)⟩:aj),g)
 else
 (bh a.1).bind fun h=>
 (ci c a.2.1 h.2).bind fun b=>
 if (!b.2.isNil)=true then
 some ((⟨0,0,0,([]:List Int)⟩:aj),b.2)
 else
 some ((⟨a.1,b.1.1,b.1.2,([]:List Int)⟩:aj),Er.nil)
theorem db (O0:Own c0 G F) (hG:Gl [5] c0) (hT:Et c0) (T:ByteArray) {r:aj×Er} (H:aC T=some r): Calls prog 19 #[.string T] c0.w (bG c0 fun c v=>∃y1 y2 y3,Own c G (es true (RI .u8) y1 5 y2 r.1.Bytes :: F)∧v= .tuple #[.agg #[I r.1.Kind,I r.1.A,I r.1.B,y1],y3]∧OA (RI .u8) c y1 y2 r.1.Bytes∧RE 230 87 c y3 r.2):=by
 unfold aC at H;refine en func19 rfl rfl (sr (me (al 38 [I 0,I 0,I 0,Y] O0) ?_));rintro v4 c3 l3 ⟨b1,rfl,O2⟩;refine va (.nilIface) (wln (sr (va (.string T) (bn H fun l h5 H=>cl (fR O2 hT.m T (⟨#[32]⟩:ByteArray) h5) ?_))));rintro v6 p2 z2 ⟨_,O9,rfl,o⟩;refine va (v6) (wln (W.seq (sr (va (v6) (bn H fun n f0 H=>?_)))));obtain ⟨m2,e1,v1⟩:=Sl.at o (bS f0);obtain rfl:=e1;refine vx (ix fv o f0) (vx (l1 u_9 (v1 0 _ rfl)) (wln (W.block (sr (vr (B (eqS n (⟨#[102,101,101,100]⟩:ByteArray))) (ed (by kernel_rfl)) (va (B (eqS n (⟨#[102,101,101,100]⟩:ByteArray))) (wln (cn H (fun f1 H=>?_) (fun f1 H=>?_)))))))))
 ·refine sr (va (v6) (bn H fun d g1 H=>cl (jZ O9 (hG.m.le (by decide)) l o g1) ?_));rintro v30 q2 a3 ⟨v20,w1,v23,t0,rfl,M,h1⟩;refine va (.agg #[I d.1.Kind,I d.1.A,I d.1.B,v20]) (va (v23) ?_);obtain ⟨s,t,u,rfl⟩:=(M).form;refine md (sA 38 [I d.1.Kind,I d.1.A,I d.1.B,.slice s t u] 1 t0 ⟨rfl,rfl,rfl,(M).one,trivial⟩) ?_;rintro d0 b3 U;refine va (v23) (wln (W.ret (bkr (thr ?_))));obtain rfl:=si H;have u0:=U.sD 2 [0];exact er (c:=d0) (vs:=[I d.1.Kind,I d.1.A,I d.1.B,.slice s t u]) (v:=v23) rfl (by kernel_rfl) (by kernel_rfl) (by kernel_rfl) (by kernel_rfl) (U.on 1 rfl _ rfl).1 ⟨_,d0,rfl,rfl,pt,(.slice s t u),w1,v23,u0,rfl,M.m,h1.m⟩
 refine sr (vr (B (eqS n (⟨#[119,114,97,112]⟩:ByteArray))) (ed (by kernel_rfl)) (va (B (eqS n (⟨#[119,114,97,112]⟩:ByteArray))) (wln (cn H (fun i1 H=>?_) (fun i1 H=>?_)))))
 ·refine sr (va (v6) (bn H fun f j1 H=>cl (jX O9 (hG.m.le (by decide)) l o j1) ?_));rintro v49 s2 d3 ⟨v39,x1,v42,v0,rfl,P,k1⟩;refine va (.agg #[I f.1.Kind,I f.1.A,I f.1.B,v39]) (va (v42) ?_);obtain ⟨x,y,z,rfl⟩:=(P).form;refine md (sA 38 [I f.1.Kind,I f.1.A,I f.1.B,.slice x y z] 1 v0 ⟨rfl,rfl,rfl,(P).one,trivial⟩) ?_;rintro e0 e3 X;refine va (v42) (wln (W.ret (bkr (thr ?_))));obtain rfl:=si H;have w0:=X.sD 2 [0];exact er (c:=e0) (vs:=[I f.1.Kind,I f.1.A,I f.1.B,.slice x y z]) (v:=v42) rfl (by kernel_rfl) (by kernel_rfl) (by kernel_rfl) (by kernel_rfl) (X.on 1 rfl _ rfl).1 ⟨_,e0,rfl,rfl,pt,(.slice x y z),x1,v42,w0,rfl,P.m,k1.m⟩
 refine W.skip (bkn (nrm (sr (va (v6) (bn H fun a m1 H=>cl (jY O9 l o m1) ?_)))));rintro m3 t2 f3 ⟨Z,rfl⟩;refine va (.tuple #[I a.1,I a.2.1,B a.2.2]) (va (I a.1) (va (I a.2.1) (va (B a.2.2) (va (I a.1) (va (I a.2.1) (va (B a.2.2) (wln (W.seq (sr (va (B a.2.2) (va (B (!a.2.2)) (wln (cn H (fun n1 H=>?_) (fun n1 H=>?_))))))))))))))
 ·refine sr (va (.agg #[I 0,I 0,I 0,Y]) (va (I a.2.1) (bn H fun o2 p1 H=>cl (bP Z (hG.m.le (by decide)) a.2.1 p1) ?_)));rintro R u2 g3 ⟨_,x0,rfl,q1⟩;refine md (sA 38 [I 0,I 0,I 0,Y] 0 x0 ⟨rfl,rfl,rfl,rfl,trivial⟩) ?_;rintro D h3 y0;refine va (R) (wln (W.ret (thr ?_)));obtain rfl:=si H;have s1:OA (RI .u8) D (Y) [] []:=OA.nil (be _);have a0:=y0.addHole (e:=es true (RI .u8) (Y) 5 [] ([]:List Int)) rfl;have z0:=a0.sD 2 [0];exact er (c:=D) (vs:=[I 0,I 0,I 0,Y]) (v:=R) rfl (by kernel_rfl) (by kernel_rfl) (by kernel_rfl) (by kernel_rfl) (a0.on 1 rfl _ rfl).1 ⟨_,D,rfl,rfl,pt,(Y),[],R,z0,rfl,s1,q1.m⟩
 refine W.skip (nrm (sr (va (I a.1) (bn H fun h t1 H=>cl (eA Z a.1 t1) ?_))));rintro n3 v2 i3 ⟨S,k3,a1,rfl,x2,p3⟩;refine va (.tuple #[S,I h.2]) (va (S) (va (I h.2) (va (S) (va (I h.2) (wln (sr (va (v6) (va (I a.2.1) (va (I h.2) (bn H fun b u1 H=>cl (fG a1 (hG.m.le (by decide)) hT.m l a.2.1 h.2 o.m u1) ?_))))))))));rintro o3 w2 j3 ⟨g,c1,rfl,g0⟩;refine va (.tuple #[.agg #[I b.1.1,I b.1.2],g]) (va (.agg #[I b.1.1,I b.1.2]) (va (g) (me (al 82 [I 0,I 0] c1) ?_)));rintro n2 f2 i2 ⟨b0,rfl,d1⟩;refine md (sA 82 [I b.1.1,I b.1.2] 0 d1 ⟨rfl,rfl,trivial⟩) ?_;rintro g2 j2 i;refine va (g) (wln (W.seq (sr (va (g) (vr (B (!b.2.isNil)) (by rcases g0.m.cs with ⟨E,N⟩ | ⟨b_,E,N⟩ | ⟨b_,E,N⟩ <;> (subst E; rw [N]; kernel_rfl)) (wln (cn H (fun m0 H=>?_) (fun m0 H=>?_))))))))
 ·refine sr (va (.agg #[I 0,I 0,I 0,Y]) (va (g) (md (sA 38 [I 0,I 0,I 0,Y] 2 i ⟨rfl,rfl,rfl,rfl,trivial⟩) ?_)));rintro j k2 h0;refine va (g) (wln (W.ret (thr ?_)));obtain rfl:=si H;have o0:OA (RI .u8) j (Y) [] []:=OA.nil (be _);have p:=h0.addHole (e:=es true (RI .u8) (Y) 5 [] ([]:List Int)) rfl;have i0:=p.sD 4 [0];exact er (c:=j) (vs:=[I 0,I 0,I 0,Y]) (v:=g) rfl (by kernel_rfl) (by kernel_rfl) (by kernel_rfl) (by kernel_rfl) (p.on 3 rfl _ rfl).1 ⟨_,j,rfl,rfl,pt,(Y),[],g,i0,rfl,o0,g0.m⟩
 refine W.skip (nrm (sr (va (I a.1) (va (Q b0) (vx (le1 0 u_3 (i.on 0 rfl)) (va (Qo b0 1) (vx (le1 1 u_3 (i.on 0 rfl)) (va (.agg #[I a.1,I b.1.1,I b.1.2,Y]) (md (sA 38 [I a.1,I b.1.1,I b.1.2,Y] 2 i ⟨rfl,rfl,rfl,rfl,trivial⟩) ?_)))))))));rintro k l2 j0;refine va (.nilIface) (wln (W.ret ?_));obtain rfl:=si H;have q0:OA (RI .u8) k (Y) [] []:=OA.nil (be _);have q:=j0.addHole (e:=es true (RI .u8) (Y) 5 [] ([]:List Int)) rfl;have k0:=q.sD 4 [0];exact er (c:=k) (vs:=[I a.1,I b.1.1,I b.1.2,Y]) (v:= .nilIface) rfl (by kernel_rfl) (by kernel_rfl) (by kernel_rfl) (by kernel_rfl) (q.on 3 rfl _ rfl).1 ⟨_,k,rfl,rfl,pt,(Y),[],.nilIface,k0,rfl,q0,rfl⟩
def dF (p0:List Int):Option (Bool):=
 (cT (σ:=Int) (τ:=Bool ⊕ Unit) (((p0.length:Int) - 0).toNat+1) (fun b=>
 if (decide (b < (p0.length:Int)))=true then
 (idx p0 b).bind fun c=>
 (orE (decide (c > 999999999)) (some (decide (c < (-999999999))))).bind fun d=>
 if d=true then
 some (.inr (.inl false))
 else
 some (.inl ((w64 (b+1))))
 else
 some (.inr (.inr ()))) (0)).bind fun a=>
 match a with
 | .inl a=>
 some a
 | .inr a=>
 some true
theorem gA (O0:Own c0 G F) (g:List Int) {r:Bool} (u:Sl (RI .i64) c0 v1 g) (H:dF g=some r): Calls prog 37 #[v1] c0.w (bG c0 fun c v=>Own c G (F)∧v=B r):=by
 unfold dF at H;refine en func37 rfl rfl (sr (va (B false) (wln (W.seq (sr (va (v1) (vx (ln 3 mY u) (va (I 0) (wln (W.block (bn H fun f U o=>lp U (fun b=>Jn c0 fun c l=>Own c G (F)∧l= [(5,v1),(6,I (g.length:Int)),(7,I b)]) (fun t=>match t with | .inl y=>(fun Z ex e w=>ex= .ret∧(Jn c0 fun c l=>Own c G (F)∧l= [(2,B Z)]) e w) y | .inr y=>(fun f0 ex e w=>ex= .exit 0∧(Jn c0 fun c l=>Own c G (F)∧l= []) e w) y) ?_ ?_ ?_)))))))))))
 ·clear o U;intro b m0 N a0 H;revert N a0;rintro s x ⟨h,g6,_,rfl,l5,rfl,p,rfl⟩;refine sr (va (B (decide (b < (g.length:Int)))) (wln (W.seq (cn H (fun R H=>?_) (fun R H=>?_)))))
  ·refine W.skip (nrm (W.seq (W.block (sr (bn H fun a k H=>?_)))));obtain ⟨e0,S,X⟩:=Sl.at (u.mono l5) (bS k);obtain rfl:=S;refine vx (ix mY u.m k) (vx (l1 u_3 (X 0 _ rfl)) (va (I a) (wln (W.seq (bn H fun q n H=>W.join (Jn h fun c l=>Own c G (F)∧l= [(5,v1),(6,I (g.length:Int)),(7,I b),(16,B q)]) ?_ ?_)))))
   ·clear H;refine W.region (va (I a) (va (B (decide (a > 999999999))) ?_));rcases bo (decide (a > 999999999)) with d | d
    ·obtain rfl:=orT d n;exact vb d (pz (va (B true) (wln (jn h ⟨p,rfl⟩))))
    have z:=orF d n;refine vb d (wa (I a) (wa (B (decide (a < (-999999999)))) ?_));obtain rfl:=si z;exact va (B (decide (a < (-999999999)))) (wln (jn h ⟨p,rfl⟩))
   rintro s x ⟨j,g0,_,rfl,j0,rfl,i,rfl⟩;refine nrm (cn H (fun T H=>?_) (fun T H=>?_))
   ·refine sr (va (B false) (wln (W.ret (bkr (thr ?_)))));obtain rfl:=si H;exact ⟨_,rfl,⟨rfl,jn j ⟨i,rfl⟩⟩⟩
   refine W.skip (bkn (nrm (W.region (vv (I (w64 (b+1))) (WL.nil ?_)))));obtain rfl:=si H;exact ⟨_,rfl,jn j ⟨i,rfl⟩⟩
  refine W.exit (thx ?_);obtain rfl:=si H;exact ⟨_,rfl,rfl,jn h ⟨p,rfl⟩⟩
 ·exact jn c0 ⟨O0,rfl⟩
 rcases f with f | f
 ·intro P; revert P;rintro _ s x ⟨rfl,E,h0,_,rfl,k0,rfl,A,rfl⟩;refine bkr (thr ?_);obtain rfl:=si o;exact r1 (qq E ⟨A,rfl⟩)
 rintro _ s x ⟨rfl,M,i0,_,rfl,l0,rfl,D,rfl⟩;refine bke (nrm (sr (va (B true) (wln (W.ret ?_)))));obtain rfl:=si o;exact r1 (qq M ⟨D,rfl⟩)
def cG (p0:aj):Option (Bool):=
 (bh p0.Kind).bind fun a=>
 if (p0.Kind==0)=true then
 (bW (p0.A==0) (some (p0.B==0))).bind fun b=>
 some b
 else
 if (p0.Kind==12)=true then
 (orE (p0.A==0) (some (p0.A==1))).bind fun c=>
 (bW c (some (p0.B==0))).bind fun d=>
 (bW d (some ((p0.Bytes.length:Int)==0))).bind fun e=>
 some e
 else
 (orE a.1.isEmpty (some (decide ((p0.Bytes.length:Int) > 0)))).bind fun f=>
 (orE f ((dF ([p0.A,p0.B]:List Int)).bind fun k=>
 some (!k))).bind fun g=>
 if g=true then
 some false
 else
 (orE (a.2==2) ((bW (p0.B==0) ((orE (a.2==1) (some (p0.A==0))).bind fun j=>
 some j)).bind fun i=>
 some i)).bind fun h=>
 some h
theorem gg (O0:Own c0 G F) (a:aj) {r:Bool} (S:Sl (RI .u8) c0 v1 a.Bytes) (H:cG a=some r): Calls prog 36 #[.agg #[I a.Kind,I a.A,I a.B,v1]] c0.w (bG c0 fun c v=>Own c G (F)∧v=B r):=by
 unfold cG at H;refine en func36 rfl rfl (sr ?_);obtain ⟨a3,a4,a5,rfl⟩:=(S).form;refine me (bx 38 [I a.Kind,I a.A,I a.B,.slice a3 a4 a5] O0) ?_;rintro v10 c9 l9 ⟨e,rfl,O7,f⟩;refine va (B false) (wln (sr (va (Q e) (vx (l1 u_3 (f 0 _ rfl)) (bn H fun b q1 H=>cl (eA O7 a.Kind q1) ?_)))));rintro v21 d v2 ⟨v12,M,g,rfl,s1,c2⟩;refine va (.tuple #[v12,I b.2]) (va (v12) (va (I b.2) (va (v12) (va (I b.2) (wln (W.seq (W.block (sr (va (Q e) (vx (l1 u_3 ((mm f) 0 _ rfl)) (vv (B (a.Kind==0)) (wln (cn H (fun t1 H=>?_) (fun t1 H=>?_))))))))))))))
 ·refine W.seq (bn H fun j0 U H=>W.join (Jn d fun c l=>Own c G (es true RS v12 9 M b.1 :: F)∧l= [(2,B j0)]) ?_ ?_)
  ·clear H;refine W.region (va (Qo e (0+1)) (vx (l1 u_3 ((mm f) 1 _ rfl)) (va (B (a.A==0)) ?_)));rcases bo (a.A==0) with k | k
   ·have s0:=anT k U;refine vb k (wa (Qo e (0+2)) (wn (vx (l1 u_3 ((mm f) 2 _ rfl)) (wa (B (a.B==0)) ?_))));obtain rfl:=si s0;exact vv (B (a.B==0)) (wln (jn d ⟨g,rfl⟩))
   obtain rfl:=anF k U;exact vb k (pz (ps (vv (B false) (wln (jn d ⟨g,rfl⟩)))))
  rintro e_ w_ ⟨k1,q2,_,rfl,w2,rfl,a1,rfl⟩;refine nrm (W.ret (bkr (thr ?_)));obtain rfl:=si H;have b1:=a1.sD 1 [];exact r1 (qq k1 ⟨b1,rfl⟩)
 refine sr (va (Q e) (vx (l1 u_3 ((mm f) 0 _ rfl)) (vv (B (a.Kind==12)) (wln (cn H (fun u1 H=>?_) (fun u1 H=>?_))))))
 ·refine W.seq (bn H fun j2 Z H=>bn H fun k2 P H=>bn H fun k0 n H=>W.join (Jn d fun c l=>Own c G (es true RS v12 9 M b.1 :: F)∧l= [(2,B k0)]) ?_ ?_)
  ·clear H;refine W.region (va (Qo e (0+1)) (vx (l1 u_3 ((mm f) 1 _ rfl)) (va (B (a.A==0)) ?_)));rcases bo (a.A==0) with o | o
   ·obtain rfl:=orT o Z;refine vb o (pz (ps (va (B true) ?_)));have a0:true=true:=rfl;have t0:=anT a0 P;refine vb a0 (wa (Qo e (0+2)) (wn (vx (l1 u_3 ((mm f) 2 _ rfl)) (wa (B (a.B==0)) ?_))));obtain rfl:=si t0;refine va (B (a.B==0)) ?_;rcases bo (a.B==0) with p | p
    ·have u0:=anT p n;refine vb p (wa (Qo e (0+3)) (wn (vx (l1 dU ((mm f) 3 _ rfl)) (wn (vx (ln 3 dU S.m) (wa (B ((a.Bytes.length:Int)==0)) ?_))))));obtain rfl:=si u0;exact vv (B ((a.Bytes.length:Int)==0)) (wln (jn d ⟨g,rfl⟩))
    obtain rfl:=anF p n;exact vb p (pz (pz (vv (B false) (wln (jn d ⟨g,rfl⟩)))))
   have v0:=orF o Z;refine vb o (wa (Qo e (0+1)) (wn (vx (l1 u_3 ((mm f) 1 _ rfl)) (wa (B (a.A==1)) ?_))));obtain rfl:=si v0;refine va (B (a.A==1)) ?_;rcases bo (a.A==1) with q | q
   ·have w0:=anT q P;refine vb q (wa (Qo e (0+2)) (wn (vx (l1 u_3 ((mm f) 2 _ rfl)) (wa (B (a.B==0)) ?_))));obtain rfl:=si w0;refine va (B (a.B==0)) ?_;rcases bo (a.B==0) with s | s
    ·have x0:=anT s n;refine vb s (wa (Qo e (0+3)) (wn (vx (l1 dU ((mm f) 3 _ rfl)) (wn (vx (ln 3 dU S.m) (wa (B ((a.Bytes.length:Int)==0)) ?_))))));obtain rfl:=si x0;exact vv (B ((a.Bytes.length:Int)==0)) (wln (jn d ⟨g,rfl⟩))
    obtain rfl:=anF s n;exact vb s (pz (pz (vv (B false) (wln (jn d ⟨g,rfl⟩)))))
   obtain rfl:=anF q P;refine vb q (pz (ps (va (B false) ?_)));have b0:false=false:=rfl;obtain rfl:=anF b0 n;exact vb b0 (pz (pz (vv (B false) (wln (jn d ⟨g,rfl⟩)))))
  rintro e_ w_ ⟨m1,s2,_,rfl,x2,rfl,c1,rfl⟩;refine nrm (W.ret (bkr (thr ?_)));obtain rfl:=si H;have d1:=c1.sD 1 [];exact r1 (qq m1 ⟨d1,rfl⟩)
 refine W.seq (bn H fun l2 d0 H=>bn H fun l0 R H=>W.join (Jn d fun c l=>Own c G (es true RS v12 9 M b.1 :: F)∧l= [(1,Q e),(4,I b.2),(46,B l0)]) ?_ ?_)
 ·clear H;refine W.region (va (v12) (vr (B b.1.isEmpty) (by rcases (s1).nilcs c2 with ⟨T,X⟩ | ⟨g_,l_,k_,T,X⟩ <;> (subst T; rw [X]; kernel_rfl)) ?_));rcases bo (b.1.isEmpty) with t | t
  ·obtain rfl:=orT t d0;refine vb t (pz (pz (va (B true) ?_)));have e0:true=true:=rfl;obtain rfl:=orT e0 R;exact vb e0 (pz (pz (pz (ps (vv (B true) (wln (jn d ⟨g,rfl⟩)))))))
  have y0:=orF t d0;refine vb t (wa (Qo e (0+3)) (wn (vx (l1 dU ((mm f) 3 _ rfl)) (wn (vx (ln 3 dU S.m) (wa (B (decide ((a.Bytes.length:Int) > 0))) ?_))))));obtain rfl:=si y0;refine va (B (decide ((a.Bytes.length:Int) > 0))) ?_;rcases bo (decide ((a.Bytes.length:Int) > 0)) with u | u
  ·obtain rfl:=orT u R;exact vb u (pz (pz (pz (ps (vv (B true) (wln (jn d ⟨g,rfl⟩)))))))
  have N:=orF u R;refine vb u (wa (Qo e (0+1)) (wn (vx (l1 u_3 ((mm f) 1 _ rfl)) (wa (Qo e (0+2)) (wn (vx (l1 u_3 ((mm f) 2 _ rfl)) (wn (me (sl (RI .i64) 3 [[I a.A],[I a.B]] ([a.A,a.B]:List Int) g ⟨rfl,rfl,trivial⟩) ?_))))))));rintro f3 o2 y2 ⟨e3,e1,w1⟩;refine wn ?_;obtain ⟨p2,y1,z2,f1,x1⟩:=e1.frz 0 rfl w1;refine WL.gh y1 (bn N fun D z1 N=>cl (gA f1 ([a.A,a.B]:List Int) x1 z1) ?_);rintro g3 n1 b3 ⟨g1,rfl⟩;refine wa (B (!D)) ?_;obtain rfl:=si N;refine vv (B (!D)) (wln ?_);have h1:=g1.sD 2 [1];exact jn n1 ⟨h1,rfl⟩
 rintro e_ w_ ⟨h,t2,_,rfl,c3,rfl,j,rfl⟩;refine nrm (cn H (fun b2 H=>?_) (fun b2 H=>?_))
 ·refine sr (va (B false) (wln (W.ret (bkr (thr ?_)))));obtain rfl:=si H;have i1:=j.sD 1 [];exact r1 (qq h ⟨i1,rfl⟩)
 refine W.skip (bkn (nrm (W.seq (bn H fun m0 f0 H=>W.join (Jn h fun c l=>Own c G (es true RS v12 9 M b.1 :: F)∧l= [(2,B m0)]) ?_ ?_))))
 ·clear H;refine W.region (va (I b.2) (va (B (b.2==2)) ?_));rcases bo (b.2==2) with x | x
  ·obtain rfl:=orT x f0;exact vb x (pz (pz (pz (pz (pz (pz (vv (B true) (wln (jn h ⟨j,rfl⟩)))))))))
  have i:=orF x f0;refine vb x (wa (Qo e (0+2)) (wn (vx (l1 u_3 ((mm f) 2 _ rfl)) (wa (B (a.B==0)) (wn (bn i fun m2 g0 i=>?_))))));rcases bo (a.B==0) with y | y
  ·have E:=anT y g0;refine vb y (wa (I b.2) (wa (B (b.2==1)) (wn (bn E fun n2 h0 E=>?_))));rcases bo (b.2==1) with z | z
   ·obtain rfl:=orT z h0;refine vb z (pz (ps (wa (B true) (wn ?_))));obtain rfl:=si E;refine va (B true) ?_;obtain rfl:=si i;exact vv (B true) (wln (jn h ⟨j,rfl⟩))
   have z0:=orF z h0;refine vb z (wa (Qo e (0+1)) (wn (vx (l1 u_3 ((mm f) 1 _ rfl)) (wa (B (a.A==0)) (wn ?_)))));obtain rfl:=si z0;refine va (B (a.A==0)) (wn ?_);obtain rfl:=si E;refine va (B (a.A==0)) ?_;obtain rfl:=si i;exact vv (B (a.A==0)) (wln (jn h ⟨j,rfl⟩))
  obtain rfl:=anF y g0;refine vb y (pz (pz (pz (ps (wa (B false) ?_)))));obtain rfl:=si i;exact vv (B false) (wln (jn h ⟨j,rfl⟩))
 rintro e_ w_ ⟨p1,u2,_,rfl,d3,rfl,j1,rfl⟩;refine nrm (W.ret ?_);obtain rfl:=si H;have i0:=j1.sD 1 [];exact r1 (qq p1 ⟨i0,rfl⟩)
def ey (p0:List Int):Option (ByteArray):=
 if ((p0.length:Int)==0)=true then
 some (⟨#[45]⟩:ByteArray)
 else
 (cT (σ:=(List Int)×Int) (τ:=(List Int)) (((p0.length:Int) - 0).toNat+1) (fun a=>
 if (decide (a.2 < (p0.length:Int)))=true then
 (idx p0 a.2).bind fun b=>
 (eU (⟨#[48,49,50,51,52,53,54,55,56,57,97,98,99,100,101,102]⟩:ByteArray) (b.fdiv (2 ^ 4))).bind fun d=>
 (eU (⟨#[48,49,50,51,52,53,54,55,56,57,97,98,99,100,101,102]⟩:ByteArray) (nC .u8 b 15)).bind fun e=>
 (app a.1 ([d,e]:List Int)).bind fun f=>
 some (.inl (f,(w64 (a.2+1))))
 else
 some (.inr (a.1))) (([]:List Int),0)).bind fun c=>
 some (fc c)
theorem kM (x:Own c0 G F) (i:List Int) {r:ByteArray} (j:Sl (RI .u8) c0 v1 i) (H:ey i=some r): Calls prog 42 #[v1] c0.w (bG c0 fun c v=>Own c G (F)∧v= .string r):=by
 unfold ey at H;refine en func42 rfl rfl (sr (va (.string (⟨#[]⟩:ByteArray)) (wln (W.seq (sr (va (v1) (vx (ln 3 dU j) (va (B ((i.length:Int)==0)) (wln (cn H (fun h3 H=>?_) (fun h3 H=>?_)))))))))))
 ·refine sr (va (.string (⟨#[45]⟩:ByteArray)) (wln (W.ret (thr ?_))));obtain rfl:=si H;exact r1 (qq c0 ⟨x,rfl⟩)
 refine W.skip (nrm (sr (va (Y) (wln (W.seq (sr (va (v1) (vx (ln 3 dU j) (va (I 0) (wln (W.block (bn H fun h h4 u=>lp h4 (fun a=>Jn c0 fun c l=>∃v6 n,Own c G (es true (RI .u8) v6 5 n a.1 :: F)∧l= [(3,v6),(9,v1),(10,I (i.length:Int)),(11,I a.2)]∧OA (RI .u8) c v6 n a.1) (fun g ex e w=>ex= .exit 0∧(Jn c0 fun c l=>∃v8 t,Own c G (es true (RI .u8) v8 5 t g :: F)∧l= [(3,v8)]∧OA (RI .u8) c v8 t g) e w) ?_ ?_ ?_))))))))))))
 ·clear u h4;intro a w1 a0 b1 H;revert a0 b1;rintro e_ w_ ⟨S,j1,_,rfl,u0,rfl,v6,n,o,rfl,q⟩;refine sr (va (B (decide (a.2 < (i.length:Int)))) (wln (W.seq (cn H (fun b0 H=>?_) (fun b0 H=>?_)))))
  ·refine W.skip (nrm (W.seq (W.block (sr (bn H fun b s H=>?_)))));obtain ⟨f1,d0,w0⟩:=Sl.at (j.mono u0) (bS s);obtain rfl:=d0;refine vx (ix dU j.m s) (vx (l1 u_5 (w0 0 _ rfl)) (va (.int .u8 b) (wln (rD [] (Kp G0 []) o ?_))));intro T m1 y;have t1:Kp G0 [] T:=Kp.nil0;refine ta 0 (v6) (ta 1 (.int .u8 b) (ta 2 (.int .u8 (b.fdiv (2 ^ 4))) (bn H fun d e0 H=>AC.take 3 (.int .u8 d) rfl (by kernel_rfl) (by kernel_rfl) (fun c' t0=>(rx (by kernel_rfl) (cP (k:= .u8) u_9 e0 _))) (ta 4 (.int .u8 b) (ta 5 (.int .u8 (nC .u8 b 15)) (bn H fun f f0 H=>AC.take 6 (.int .u8 f) rfl (by kernel_rfl) (by kernel_rfl) (fun c' t0=>(rx (by kernel_rfl) (cP (k:= .u8) u_9 f0 _))) (o1 7 (gm 7 (sl (RI .u8) 5 [[.int .u8 d],[.int .u8 f]] ([d,f]:List Int) y ⟨rfl,rfl,trivial⟩) ?_))))))));rintro v31 U n1 ⟨u1,z,g0⟩;have x0:Kp G0 [] U:=Kp.nil0;refine ⟨.inr x0,?_⟩;obtain ⟨X,i0,v0,A,h0⟩:=z.frz 0 rfl g0;have y0:Kp G0 [] X:=Kp.nil0;refine AC.gh i0 v0 (fun _=>y0) (bn H fun h1 j0 H=>o1 8 (gm 8 (ap (RI .u8) (.int .u8 0) 1 36 1 A q.m h0 j0 dU) ?_));rintro v43 p p1 ⟨a1,D,l0⟩;have z0:Kp G0 [] p:=Kp.nil0;refine ⟨.inr z0,ta 9 (v43) (dn (bkn (nrm (W.region (vv (I (w64 (a.2+1))) (WL.nil ?_))))))⟩;obtain rfl:=si H;refine ⟨_,rfl,?_⟩;have E:=D.sD 2 [1];exact jn p ⟨v43,a1,E,rfl,l0⟩
  refine W.exit (thx ?_);obtain rfl:=si H;exact ⟨_,rfl,rfl,jn S ⟨v6,n,o,rfl,q⟩⟩
 ·have m0:OA (RI .u8) c0 (Y) [] []:=OA.nil (be _);have M:=x.addHole (e:=es true (RI .u8) (Y) 5 [] ([]:List Int)) rfl;exact jn c0 ⟨(Y),[],M,rfl,m0⟩
 rintro _ e_ w_ ⟨rfl,i1,k1,_,rfl,q1,rfl,v8,t,N,rfl,o0⟩;refine bke (nrm (sr (va (v8) ?_)));obtain ⟨Z,s0,s1,P,q0⟩:=N.frz 0 rfl o0;refine WL.gh s0 (vr (.string (fc h)) (rx (by kernel_rfl) (gR dU u_5 u_9 q0)) (va (.string (fc h)) (wln (W.ret ?_))));obtain rfl:=si u;have R:=P.sD 1 [];exact r1 (qq Z ⟨R,rfl⟩)
def cC (p0:aj):Option (ByteArray):=
 (cG p0).bind fun l=>
 if (!l)=true then
 some (⟨#[]⟩:ByteArray)
 else
 if (p0.Kind==0)=true then
 (ey p0.Bytes).bind fun f=>
 (cx (⟨#[102,101,101,100,32]⟩:ByteArray) f).bind fun g=>
 some g
 else
 (bW (p0.Kind==12) (some (p0.A==1))).bind fun d=>
 if d=true then
 some (⟨#[119,114,97,112,32,111,110]⟩:ByteArray)
 else
 if (p0.Kind==12)=true then
 some (⟨#[119,114,97,112,32,111,102,102]⟩:ByteArray)
 else
 (bh p0.Kind).bind fun c=>
 (slc ([p0.A,p0.B]:List Int) 0 c.2).bind fun b=>
 (cT (σ:=(List ByteArray)×Int) (τ:=(List ByteArray)) (((b.length:Int) - 0).toNat+1) (fun a=>
 if (decide (a.2 < (b.length:Int)))=true then
 (idx b a.2).bind fun h=>
 (bT h).bind fun i=>
 (app a.1 ([i]:List ByteArray)).bind fun j=>
 some (.inl (j,(w64 (a.2+1))))
 else
 some (.inr (a.1))) (c.1,0)).bind fun e=>
 (dN e (⟨#[32]⟩:ByteArray)).bind fun k=>
 some k
theorem fD (O0:Own c0 G F) (hT:Et c0) (a:aj) {r:ByteArray} (h2:Sl (RI .u8) c0 v1 a.Bytes) (H:cC a=some r): Calls prog 17 #[.agg #[I a.Kind,I a.A,I a.B,v1]] c0.w (bG c0 fun c v=>Own c G (F)∧v= .string r):=by
 unfold cC at H;refine en func17 rfl rfl (sr ?_);obtain ⟨a3,a4,a5,rfl⟩:=(h2).form;refine me (bx 38 [I a.Kind,I a.A,I a.B,.slice a3 a4 a5] O0) ?_;rintro v10 c9 l9 ⟨f,rfl,O7,g⟩;refine va (.string (⟨#[]⟩:ByteArray)) (wln (W.seq (W.block (sr (vx (lN 38 g) (bn H fun Z i1 H=>cl (gg O7 a h2.m i1) ?_))))));rintro v17 p l16 ⟨o,rfl⟩;refine vv (B (!Z)) (wln (cn H (fun j1 H=>?_) (fun j1 H=>?_)))
 ·refine sr (va (.string (⟨#[]⟩:ByteArray)) (wln (W.ret (bkr (thr ?_)))));obtain rfl:=si H;exact r1 (qq p ⟨o,rfl⟩)
 refine sr (va (Q f) (vx (l1 u_3 ((mm g) 0 _ rfl)) (vv (B (a.Kind==0)) (wln (cn H (fun k1 H=>?_) (fun k1 H=>?_))))))
 ·refine sr (va (Qo f (0+3)) (vx (l1 dU ((mm g) 3 _ rfl)) (bn H fun f3 m1 H=>cl (kM o a.Bytes h2.m m1) ?_)));rintro v26 e1 o3 ⟨w0,rfl⟩;refine bn H fun D n1 H=>vr (.string D) (rx (by kernel_rfl) (ay n1 _)) (va (.string D) (wln (W.ret (bkr (thr ?_)))));obtain rfl:=si H;exact r1 (qq e1 ⟨w0,rfl⟩)
 refine W.seq (bn H fun j0 R H=>W.join (Jn p fun c l=>Own c G (F)∧l= [(1,Q f),(19,B j0)]) ?_ ?_)
 ·clear H;refine W.region (va (Q f) (vx (l1 u_3 ((mm g) 0 _ rfl)) (va (B (a.Kind==12)) ?_)));rcases bo (a.Kind==12) with i | i
  ·have v0:=anT i R;refine vb i (wa (Qo f (0+1)) (wn (vx (l1 u_3 ((mm g) 1 _ rfl)) (wa (B (a.A==1)) ?_))));obtain rfl:=si v0;exact vv (B (a.A==1)) (wln (jn p ⟨o,rfl⟩))
  obtain rfl:=anF i R;exact vb i (pz (ps (vv (B false) (wln (jn p ⟨o,rfl⟩)))))
 rintro e_ w_ ⟨P,m3,_,rfl,p3,rfl,t,rfl⟩;refine nrm (cn H (fun p1 H=>?_) (fun p1 H=>?_))
 ·refine sr (va (.string (⟨#[119,114,97,112,32,111,110]⟩:ByteArray)) (wln (W.ret (bkr (thr ?_)))));obtain rfl:=si H;exact r1 (qq P ⟨t,rfl⟩)
 refine sr (va (Q f) (vx (l1 u_3 ((mm g) 0 _ rfl)) (vv (B (a.Kind==12)) (wln (cn H (fun q1 H=>?_) (fun q1 H=>?_))))))
 ·refine sr (va (.string (⟨#[119,114,97,112,32,111,102,102]⟩:ByteArray)) (wln (W.ret (bkr (thr ?_)))));obtain rfl:=si H;exact r1 (qq P ⟨t,rfl⟩)
 refine W.skip (bkn (nrm (sr (va (Q f) (vx (l1 u_3 ((mm g) 0 _ rfl)) (bn H fun h s1 H=>cl (eA t a.Kind s1) ?_))))));rintro v49 h3 q3 ⟨v40,l2,x0,rfl,t1,c4⟩;refine va (.tuple #[v40,I h.2]) (va (v40) (va (I h.2) (va (v40) (va (I h.2) (wln (W.seq (sr (va (Qo f (0+1)) (vx (l1 u_3 ((mm g) 1 _ rfl)) (va (Qo f (0+2)) (vx (l1 u_3 ((mm g) 2 _ rfl)) (me (sl (RI .i64) 3 [[I a.A],[I a.B]] ([a.A,a.B]:List Int) x0 ⟨rfl,rfl,trivial⟩) ?_))))))))))));rintro v54 i3 s3 ⟨X,y0,u1⟩;refine va (I h.2) (bn H fun E w1 H=>?_);obtain ⟨u,y1,t3,z0,x1⟩:=y0.frz 0 rfl u1;refine WL.gh y1 ?_;obtain ⟨v60,z1,x⟩:=nd (k':= .i64) mY (by kernel_rfl) x1 w1;refine vr v60 (rx (by kernel_rfl) (z1 _)) (vx (ln 3 mY x) (va (I 0) (wln (W.block (bn H fun t0 S n=>lp S (fun b=>Jn u fun c l=>∃d s,Own c G (es true RS d 9 s b.1 :: es false (RI .i64) v54 3 X ([a.A,a.B]:List Int) :: F)∧l= [(3,d),(44,v60),(45,I (E.length:Int)),(46,I b.2)]∧OA RS c d s b.1) (fun q ex e w=>ex= .exit 1∧(Jn u fun c l=>∃j y,Own c G (es true RS j 9 y q :: es false (RI .i64) v54 3 X ([a.A,a.B]:List Int) :: F)∧l= [(3,j)]∧OA RS c j y q) e w) ?_ ?_ ?_)))))
 ·clear n S;intro b b4 h1 o2 H;revert h1 o2;rintro e_ w_ ⟨f1,n3,_,rfl,j2,rfl,d,s,N,rfl,T⟩;refine sr (va (B (decide (b.2 < (E.length:Int)))) (wln (W.seq (cn H (fun b2 H=>?_) (fun b2 H=>?_)))))
  ·refine W.skip (nrm (W.seq (W.block (sr (bn H fun k U H=>?_)))));obtain ⟨d3,c2,k2⟩:=Sl.at (x.mono j2) (bS U);obtain rfl:=c2;refine vx (ix mY x.m U) (vx (l1 u_3 (k2 0 _ rfl)) (va (I k) (wln (W.region (va (d) (va (I k) (bn H fun M d2 H=>cl (jH N hT.m k d2) ?_)))))));rintro y3 j3 u3 ⟨a1,rfl⟩;refine me (sl RS 9 [[.string M]] ([M]:List ByteArray) a1 ⟨rfl,trivial⟩) ?_;rintro z3 k3 v3 ⟨x3,b1,e2⟩;obtain ⟨l3,g2,w3,c1,f2⟩:=b1.frz 0 rfl e2;refine WL.gh g2 (bn H fun g3 i2 H=>me (ap RS (.string ByteArray.empty) 16 72 1 c1 T.m f2 i2 fv) ?_);rintro z h0 y2 ⟨m2,d1,k0⟩;refine va (z) (WL.nil (bkn (nrm (W.region (vv (I (w64 (b.2+1))) (WL.nil ?_))))));obtain rfl:=si H;refine ⟨_,rfl,?_⟩;have a0:=d1.sD 3 [1,2];exact jn h0 ⟨z,m2,a0,rfl,k0⟩
  refine W.exit (thx ?_);obtain rfl:=si H;exact ⟨_,rfl,rfl,jn f1 ⟨d,s,N,rfl,T⟩⟩
 ·have b0:=z0.sD 2 [1,0];exact jn u ⟨v40,l2,b0,rfl,t1.m⟩
 rintro _ e_ w_ ⟨rfl,v2,x2,_,rfl,z2,rfl,j,y,d0,rfl,l0⟩;refine bke (nrm (sr (va (j) ?_)));obtain ⟨w2,o0,b3,e0,m0⟩:=d0.frz 0 rfl l0;refine WL.gh o0 (bn n fun u0 q0 n=>cl (jG e0 hT.m t0 (⟨#[32]⟩:ByteArray) m0 q0) ?_);rintro e3 i0 c3 ⟨f0,rfl⟩;refine va (.string u0) (wln (W.ret ?_));obtain rfl:=si n;have g0:=f0.sD 2 [];exact r1 (qq i0 ⟨g0,rfl⟩)
def co (p0:af):Option (Bool):=
 (cT (σ:=Int) (τ:=Bool ⊕ Unit) (((p0.Ops.length:Int) - 0).toNat+1) (fun b=>
 if (decide (b < (p0.Ops.length:Int)))=true then
 (idx p0.Ops b).bind fun c=>
 (cG c).bind fun d=>
 if (!d)=true then
 some (.inr (.inl false))
 else
 some (.inl ((w64 (b+1))))
 else
 some (.inr (.inr ()))) (0)).bind fun a=>
 match a with
 | .inl a=>
 some a
 | .inr a=>
 (dF ([p0.W,p0.H]:List Int)).bind fun e=>
 some e
theorem eB (O0:Own c0 G F) (b:af) {r:Bool} (k:Sl bq c0 v1 b.Ops) (H:co b=some r): Calls prog 13 #[.agg #[I b.W,I b.H,v1]] c0.w (bG c0 fun c v=>Own c G (F)∧v=B r):=by
 unfold co at H;refine en func13 rfl rfl (sr ?_);obtain ⟨a3,a4,a5,rfl⟩:=(k).form;refine me (bx 24 [I b.W,I b.H,.slice a3 a4 a5] O0) ?_;rintro v10 j l9 ⟨g,rfl,O7,D⟩;refine va (B false) (wln (W.seq (sr (va (Qo g (0+2)) (vx (l1 eg (D 2 _ rfl)) (vx (ln 3 eg k.m) (va (I 0) (wln (W.block (bn H fun i y d=>lp y (fun f=>Jn j fun c l=>Own c G (F)∧l= [(1,Q g),(6,.slice a3 a4 a5),(7,I (b.Ops.length:Int)),(8,I f)]) (fun t=>match t with | .inl E=>(fun a1 ex e w=>ex= .ret∧(Jn j fun c l=>Own c G (F)∧l= [(2,B a1)]) e w) E | .inr E=>(fun h1 ex e w=>ex= .exit 0∧(Jn j fun c l=>Own c G (F)∧l= [(1,Q g)]) e w) E) ?_ ?_ ?_))))))))))
 ·clear d y;intro f g2 k0 c1 H;revert k0 c1;rintro e_ w_ ⟨g0,q1,_,rfl,x0,rfl,n,rfl⟩;refine sr (va (B (decide (f < (b.Ops.length:Int)))) (wln (W.seq (cn H (fun m0 H=>?_) (fun m0 H=>?_)))))
  ·refine W.skip (nrm (W.seq (W.block (sr (bn H fun a z H=>?_)))));obtain ⟨g1,o0,z0⟩:=Sl.at (k.mono (l9.trans x0)) (bS z);obtain ⟨v24,rfl,h⟩:=o0;refine vx (ix eg k.m z) (vx (lN 38 z0) (me (al 38 [I 0,I 0,I 0,Y] n) ?_));rintro v29 j1 y0 ⟨i1,rfl,P⟩;obtain ⟨q,s,u,rfl⟩:=((h.mono y0)).form;refine md (sA 38 [I a.Kind,I a.A,I a.B,.slice q s u] 0 P ⟨rfl,rfl,rfl,h.m.one,trivial⟩) ?_;rintro k1 u1 o;refine wln (sr (vx (leN 38 0 [I a.Kind,I a.A,I a.B,.slice q s u] (o.on 0 rfl)) (bn H fun M q0 H=>cl (gg o a h.m q0) ?_)));rintro v41 x w1 ⟨p,rfl⟩;refine va (B (!M)) (wln (cn H (fun s0 H=>?_) (fun s0 H=>?_)))
   ·refine sr (va (B false) (wln (W.ret (bkr (thr ?_)))));obtain rfl:=si H;refine ⟨_,rfl,⟨rfl,?_⟩⟩;have R:=p.sD 1 [];exact jn x ⟨R,rfl⟩
   refine W.skip (bkn (nrm (W.region (vv (I (w64 (f+1))) (WL.nil ?_)))));obtain rfl:=si H;refine ⟨_,rfl,?_⟩;have S:=p.sD 1 [];exact jn x ⟨S,rfl⟩
  refine W.exit (thx ?_);obtain rfl:=si H;exact ⟨_,rfl,rfl,jn g0 ⟨n,rfl⟩⟩
 ·exact jn j ⟨O7,rfl⟩
 rcases i with i | i
 ·intro l0; revert l0;rintro _ e_ w_ ⟨rfl,h0,s1,_,rfl,x1,rfl,T,rfl⟩;refine bkr (thr ?_);obtain rfl:=si d;exact r1 (qq h0 ⟨T,rfl⟩)
 rintro _ e_ w_ ⟨rfl,m1,t1,_,rfl,y1,rfl,U,rfl⟩;refine bke (nrm (sr (va (Q g) (vx (l1 u_3 ((mm D) 0 _ rfl)) (va (Qo g (0+1)) (vx (l1 u_3 ((mm D) 1 _ rfl)) (me (sl (RI .i64) 3 [[I b.W],[I b.H]] ([b.W,b.H]:List Int) U ⟨rfl,rfl,trivial⟩) ?_)))))));rintro e2 n1 z1 ⟨d2,X,t0⟩;obtain ⟨p1,v0,b2,Z,u0⟩:=X.frz 0 rfl t0;refine WL.gh v0 (bn d fun N w0 d=>cl (gA Z ([b.W,b.H]:List Int) u0 w0) ?_);rintro f2 i0 c2 ⟨a0,rfl⟩;refine va (B N) (wln (W.ret ?_));obtain rfl:=si d;have b0:=a0.sD 1 [];exact r1 (qq i0 ⟨b0,rfl⟩)
end Go.Proofs.YtmncdniojmigeaaGreatDoor
namespace Go.Proofs.YtmncdniojmigeaaGreatDoor
open Go Go.Lt
set_option maxRecDepth 10000
set_option linter.unusedVariables false
attribute [local irreducible] W WL AC
open Go.RowKit Go.Extern.Stop Go.Stop Go.Extern
def jB (n:Nat):Er→Bool
 | .nil=>true
 | .sent g=>decide (g < n)
 | .fault _ e=>jB n e
def gZ (k:Nat):Er→Bool
 | .nil=>false
 | .sent g=>g==k
 | .fault _ e=>gZ k e
def fN:Er→Nat
 | .nil=>0
 | .sent _=>0
 | .fault _ e=>fN e+1
def bt (p0 p1:Er):Option Bool:=match p1 with
 | .sent k=>if k < 8∧jB 8 p0=true then some (gZ k p0) else none
 | _=>none
theorem mJ (v:Value) (w:World):(Extern.ReflectliteType.typeOf #[.iface 230 v]).run Tryz.prog w= .ok (.iface 154 (.agg #[.pointer (some ⟨17,230,none⟩)])) w:=by kernel_rfl
theorem jV (w:World):((Extern.ReflectliteType.method fun t=>do Extern.Rtype.noPackHeld "Comparable" t; pure (.bool (←typeInfo t).comparable)) #[.agg #[.pointer (some ⟨17,230,none⟩)]]).run Tryz.prog w= .ok (.bool true) w:=by kernel_rfl
theorem gu (v:Value) (w:World):(Go.method 360 154 v "Comparable").run Tryz.prog w= .ok (199,v) w:=by kernel_rfl
theorem oz:(Tryz.prog.info? 230).map (·.comparable)=some true:=by kernel_rfl
theorem oy:(Tryz.prog.info? 232).map (·.size)=some 1:=by kernel_rfl
theorem nx (v:Value) (xT:TypeId) (w:World):(Instr.typeAssert (.iface 230 v) xT 156 true).run Tryz.prog w= .ok (.tuple #[.nilIface,.bool false]) w:=run_typeAssert_lacksB Tryz.underlying156 (by kernel_rfl) (by kernel_rfl) v xT w
theorem kI (v:Value) (xT:TypeId) (w:World):(Instr.typeAssert (.iface 230 v) xT 159 true).run Tryz.prog w= .ok (.tuple #[.nilIface,.bool false]) w:=run_typeAssert_lacksB Tryz.underlying159 (by kernel_rfl) (by kernel_rfl) v xT w
theorem jT (v:Value) (xT:TypeId) (w:World):(Instr.typeAssert (.iface 230 v) xT 160 true).run Tryz.prog w= .ok (.tuple #[.nilIface,.bool false]) w:=run_typeAssert_lacksB Tryz.underlying160 (by kernel_rfl) (by kernel_rfl) v xT w
theorem nv (v:Value) (xT:TypeId) (w:World):(Instr.typeAssert (.iface 87 v) xT 156 true).run Tryz.prog w= .ok (.tuple #[.nilIface,.bool false]) w:=run_typeAssert_lacksB Tryz.underlying156 (by kernel_rfl) (by kernel_rfl) v xT w
theorem jU (v:Value) (xT:TypeId) (w:World):(Instr.typeAssert (.iface 87 v) xT 159 true).run Tryz.prog w= .ok (.tuple #[.iface 87 v,.bool true]) w:=run_typeAssert_hasB Tryz.underlying159 (by kernel_rfl) v xT w
theorem iR (v:Value) (w:World):(Go.method 360 87 v "Unwrap").run Tryz.prog w= .ok (193,v) w:=by kernel_rfl
open Classical in
noncomputable def ju (c:Cx) (E:Value):Nat:=if h:∃p,RE 230 87 c E p then fN h.choose else 0
theorem jt {c:Cx}:∀{p p':Er} {E:Value},RE 230 87 c E p→RE 230 87 c E p'→fN p=fN p'
 | .nil,.nil,_,_,_=>rfl
 | .nil,.sent _,_,h,h'=>rfl
 | .nil,.fault _ _,_,h,h'=>by
  obtain rfl:=h;obtain ⟨b,u,e,_⟩:=h';cases e
 | .sent _,.nil,_,_,_=>rfl
 | .sent _,.sent _,_,_,_=>rfl
 | .sent _,.fault _ _,_,h,h'=>by
  obtain ⟨a,rfl,_⟩:=h;obtain ⟨b,u,e,_⟩:=h';cases e
 | .fault _ _,.nil,_,h,h'=>by
  obtain rfl:=h';obtain ⟨b,u,e,_⟩:=h;cases e
 | .fault _ _,.sent _,_,h,h'=>by
  obtain ⟨a,rfl,_⟩:=h';obtain ⟨b,u,e,_⟩:=h;cases e
 | .fault _ p,.fault _ p',_,h,h'=>by
  obtain ⟨b,u,rfl,_,h1,h2⟩:=h;obtain ⟨b',u',e,_,h1',h2'⟩:=h';cases e;have:=h1.cell.symm.trans h1'.cell;cases this;show fN p+1=fN p'+1;rw [jt h2 h2']
theorem ki {c:Cx} {E:Value} {p:Er} (h:RE 230 87 c E p):ju c E=fN p:=by
 unfold ju;rw [pg ⟨p,h⟩];exact jt (Exists.choose_spec ⟨p,h⟩) h
set_option maxRecDepth 1000000 in
theorem lc {c:Cx} (hG:Gl [0,1,2,3,4,5,6,7] c) (b:Addr) (k:Nat) (hk:k < 8) (h2:RE 230 87 c (.iface 230 (.pointer (some b))) (.sent k)) (E:Value) (p0:Er) (h1:RE 230 87 c E p0) (hn:p0.isNil=false) (ha:jB 8 p0=true):
  Calls Tryz.prog 74 #[E,.iface 230 (.pointer (some b)),.bool true] c.w fun e w'=>e= .returned (.bool (gZ k p0))∧w'=c.w:=by
 obtain ⟨i,hi,hcmp⟩:=Option.map_eq_some_iff.1 oz;obtain ⟨j,hj,hjs⟩:=Option.map_eq_some_iff.1 oy;have nE:=nx;have uE:=kI;have vE:=jT;have nW:=nv;have uW:=jU;have mU:=iR;have hmem:∀g,g < 8→g∈ [0,1,2,3,4,5,6,7]:=by decide
 obtain ⟨b',eb,hkm,hkf⟩:=h2;cases eb;obtain ⟨W,hW⟩:∃W,Hid (W=c.w):=⟨_,rfl⟩;rw [←hW.out]
 go_enter Tryz.func74,Tryz.ntmps74
 go_wp2
 go_loopw [0] (fun E' wl=>wl=W∧∃p,RE 230 87 c E' p∧p.isNil=false∧jB 8 p=true∧gZ k p0=gZ k p) (fun E' _=>ju c E')
 case atStart=>exact ⟨rfl,p0,h1,hn,ha,rfl⟩
 case round=>
  obtain ⟨rfl,p,hp,hpn,hpa,hiff⟩:=hrel
  cases p with
  | nil=>cases hpn
  | sent g=>
   obtain ⟨a,rfl,hgm,hgf⟩:=hp;by_cases hab:a=b
   ·subst hab;have hgk:g=k:=Classical.byContradiction fun hne=>hG.2 g k (hmem g (eh hpa)) (hmem k hk) hne a hgm hkm;have heq:=run_eql_iface_ptr_same (P:=Tryz.prog) wr a Tryz.underlying31 Tryz.underlying230 hi hcmp hj
    go_wp2
    go_ret
    exact ⟨by rw [hiff]; simp [gZ,hgk],rfl⟩
   ·obtain ⟨ca,ta,hca⟩:=hgf.blk;obtain ⟨cb,tb,hcb⟩:=hkf.blk;rw [←hW.out] at hca hcb;have hgk:¬g=k:=fun e=>by
     subst e;have:=hgm.cell.symm.trans hkm.cell;cases this;exact hab rfl
    have heq:=run_eql_iface_ptr_other (P:=Tryz.prog) wr Tryz.underlying31 Tryz.underlying230 hi hcmp hj (by rw [hjs]; decide) hab hca hcb
    go_wp2
    go_ret
    exact ⟨by rw [hiff]; simp [gZ,hgk],rfl⟩
  | fault n e1=>
   obtain ⟨fb,u,rfl,hi0,hi1,hre⟩:=hp;have hcell:=hi1.cell;rw [←hW.out] at hcell;have hty:=run_eql_iface_types (P:=Tryz.prog) 87 230 (.pointer (some ⟨fb,0,none⟩)) (.pointer (some b)) Tryz.underlying31 (by decide) wr;have hlen:=ki hre;have hlen0:=ki (c:=c) (E:= .iface 87 (.pointer (some ⟨fb,0,none⟩))) (p:= .fault n e1) ⟨fb,u,rfl,hi0,hi1,hre⟩;have HC:Hid (RE 230 87 c u e1):=hre
   cases e1 with
   | nil=>
    obtain rfl:=hre
    go_wp2
    go_ret
    exact ⟨by rw [hiff]; simp [gZ],rfl⟩
   | sent g=>
    obtain ⟨a,rfl,_⟩:=hre
    go_wp2
    go_roundw
    case rel=>exact ⟨trivial,_,HC.out,rfl,hpa,hiff⟩
    case measure=>
     show ju c (.iface 230 (.pointer (some a))) < _;rw [hlen,hlen0]; simp [fN]
   | fault n2 e2=>
    obtain ⟨fb2,u2,rfl,_⟩:=hre
    go_wp2
    go_roundw
    case rel=>exact ⟨trivial,_,HC.out,rfl,hpa,hiff⟩
    case measure=>
     show ju c (.iface 87 (.pointer (some ⟨fb2,0,none⟩))) < _;rw [hlen,hlen0]; simp [fN]
set_option maxRecDepth 1000000 in
theorem pG {c:Cx} (hG:Gl [0,1,2,3,4,5,6,7] c) (b:Addr) (k:Nat) (hk:k < 8) (h2:RE 230 87 c (.iface 230 (.pointer (some b))) (.sent k)) (E:Value) (p0:Er) (h1:RE 230 87 c E p0) (ha:jB 8 p0=true):
  Calls Tryz.prog 52 #[E,.iface 230 (.pointer (some b))] c.w fun e w'=>e= .returned (.bool (gZ k p0))∧w'=c.w:=by
 have h8:= @aq Tryz.prog 73 _ Extern.ReflectliteType.typeOf Tryz.func73 (by kernel_rfl) (by kernel_rfl) (by kernel_rfl) (by kernel_rfl);have h320:= @aq Tryz.prog 199 _ (Extern.ReflectliteType.method fun t=>do Extern.Rtype.noPackHeld "Comparable" t; pure (.bool (←typeInfo t).comparable)) Tryz.func199 (by kernel_rfl) (by kernel_rfl) (by kernel_rfl) (by kernel_rfl);have h32:∀w,(callFunc 199 #[.agg #[.pointer (some ⟨17,230,none⟩)]]).run Tryz.prog w= .ok (.value (.bool true)) w:=fun w=>by rw [h320,jV]; rfl
 clear h320
 have tT:=mJ;have mR:=gu
 cases p0 with
 | nil=>
  obtain rfl:=h1;have hn:=run_eql_iface_nil_left (P:=Tryz.prog) c.w 230 (.pointer (some b)) Tryz.underlying31
  clear h2 hG
  go_enter Tryz.func52,Tryz.ntmps52
  go_wp2
  go_ret
  exact ⟨rfl,rfl⟩
 | sent g=>
  have hcon:=lc hG b k hk h2 E (.sent g) h1 rfl ha;obtain ⟨a,rfl,_⟩:=h1
  clear h2 hG
  go_enter Tryz.func52,Tryz.ntmps52
  go_wp2_with (first | (go_at_call 74; refine hcon.mono ?_; rintro e w' ⟨rfl,rfl⟩) | go_in)
  go_ret
  exact ⟨rfl,rfl⟩
 | fault i e=>
  have hcon:=lc hG b k hk h2 E (.fault i e) h1 rfl ha;obtain ⟨fb,u,rfl,_⟩:=h1
  clear h2 hG
  go_enter Tryz.func52,Tryz.ntmps52
  go_wp2_with (first | (go_at_call 74; refine hcon.mono ?_; rintro e w' ⟨rfl,rfl⟩) | go_in)
  go_ret
  exact ⟨rfl,rfl⟩
theorem di {c0:Cx} {G:Gm} {F:List En} {v1 v2:Value} (O0:Own c0 G F) (hG:Gl [0,1,2,3,4,5,6,7] c0) (p0 p1:Er) (h1:RE 230 87 c0 v1 p0) (h2:RE 230 87 c0 v2 p1) {r:Bool} (H:bt p0 p1=some r): Calls Tryz.prog 52 #[v1,v2] c0.w (bG c0 fun c v=>Own c G F∧v= .bool r):=by
 unfold bt at H;split at H
 ·rename_i k;split at H
  ·rename_i hh;obtain rfl:=ao H;obtain ⟨b,rfl,h3⟩:=id h2;refine (pG hG b k hh.1 h2 v1 p0 h1 hh.2).mono ?_;rintro e w' ⟨rfl,rfl⟩;exact ⟨_,c0,rfl,rfl,Cx.le.refl _,O0,rfl⟩
  ·cases H
 ·cases H
end Go.Proofs.YtmncdniojmigeaaGreatDoor
