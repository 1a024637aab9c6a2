/- Parts of the proofs of UcdBook: the walk through the code, and plain Lean. No condition. -/
import Derived.WalkKit
import Derived.KernelRfl
import Derived.TacticsIn
import Derived.LoopNIn
import Derived.OrdersIn
import Derived.Laws.BytesString
import Derived.Laws.Concat
import Derived.Laws.Strings
import Derived.Laws.Strings2
import Derived.Laws.Strings3
import Derived.Laws.Slices
import Derived.Lib.ConvBytes
import Derived.Test.YtjghgpnafaoojaaProg
import Derived.Shelf.Sort.Plain
import Derived.Shelf.Slices.In.SortNone
import Derived.Shelf.Slices.CompactI
set_option linter.unusedVariables false
set_option linter.unusedSimpArgs false
abbrev dy:=@Go.Addr.add_lit
abbrev bS:=@Array.getD_eq_getD_getElem?
abbrev nF:=@Array.getElem?_eq_none
abbrev ac:=@Bool.and_eq_true
abbrev mE:=@Bool.and_true
abbrev pN:=@Bool.eq_iff_iff
abbrev cD:=@Bool.false_eq_true
abbrev cg:=@Bool.or_eq_true
abbrev fu:=@Bool.true_and
abbrev pM:=@Go.DataW.lit.injEq
abbrev mM:=@Go.WideShapes.add_plain
abbrev js:=@Int.add_zero
abbrev pC:=@Int.emod_eq_of_lt
abbrev fg:=@Int.le_refl
abbrev jr:=@Int.le_trans
abbrev iP:=@Int.natCast_nonneg
abbrev bZ:=@Int.tdiv_eq_ediv_of_nonneg
abbrev bY:=@Int.tmod_eq_emod_of_nonneg
abbrev pB:=@Int.toNat_natCast
abbrev jM:=@List.all_eq_true
abbrev pA:=@List.any_eq_false
abbrev jL:=@List.any_eq_true
abbrev bM:=@List.append_assoc
abbrev kI:=@List.append_nil
abbrev pL:=@List.cons.injEq
abbrev aP:=@List.cons_append
abbrev nH:=@List.contains_iff_mem
abbrev kc:=@List.drop_append_of_le_length
abbrev cv:=@List.drop_drop
abbrev aA:=@List.drop_eq_getElem_cons
abbrev nE:=@List.drop_eq_nil_of_le
abbrev eU:=@List.drop_left
abbrev nD:=@List.drop_of_length_le
abbrev dx:=@List.drop_take
abbrev gQ:=@List.drop_zero
abbrev dP:=@List.eq_nil_of_length_eq_zero
abbrev py:=@List.ext_getElem?
abbrev gl:=@List.find?_cons
abbrev jq:=@List.flatten_cons
abbrev lM:=@List.getD_eq_getElem?_getD
abbrev az:=@List.getElem?_append_left
abbrev aE:=@List.getElem?_append_right
abbrev fP:=@List.getElem?_cons_zero
abbrev eR:=@List.getElem?_drop
abbrev ai:=@List.getElem?_eq_getElem
abbrev gt:=@List.getElem?_eq_none
abbrev ff:=@List.getElem?_map
abbrev gZ:=@List.getElem?_range
abbrev gP:=@List.getElem?_set_ne
abbrev gd:=@List.getElem?_set_self
abbrev bj:=@List.getElem?_take
abbrev aB:=@List.getElem?_toArray
abbrev mD:=@List.getElem_append_left
abbrev nC:=@List.getElem_cons_zero
abbrev a9:=@List.getElem_mem
abbrev px:=@List.idxOf_append
abbrev oy:=@List.idxOf_eq_length
abbrev am:=@List.length_append
abbrev an:=@List.length_cons
abbrev bT:=@List.length_drop
abbrev aD:=@List.length_map
abbrev aC:=@List.length_nil
abbrev pw:=@List.length_range
abbrev nG:=@List.length_replicate
abbrev dW:=@List.length_set
abbrev ao:=@List.length_take
abbrev oB:=@List.map_congr_left
abbrev ft:=@List.map_cons
abbrev pK:=@List.mem_append
abbrev cV:=@List.mem_append_left
abbrev gr:=@List.mem_append_right
abbrev cm:=@List.mem_cons
abbrev oA:=@List.mem_map_of_mem
abbrev ox:=@List.mem_of_getElem?
abbrev ow:=@List.mem_of_mem_take
abbrev dj:=@List.mem_singleton
abbrev pJ:=@List.nodup_cons
abbrev dI:=@List.not_mem_nil
abbrev bX:=@List.pairwise_cons
abbrev lO:=@List.pairwise_iff_getElem
abbrev jp:=@List.size_toArray
abbrev pF:=@List.take_append
abbrev bh:=@List.take_append_drop
abbrev kb:=@List.take_append_of_le_length
abbrev aO:=@List.take_length
abbrev bR:=@List.take_of_length_le
abbrev ak:=@List.take_succ_eq_append_getElem
abbrev eQ:=@List.take_take
abbrev cA:=@Nat.add_mul
abbrev iO:=@Nat.add_sub_cancel
abbrev dD:=@Nat.ble_eq_true_of_le
abbrev dC:=@Nat.eq_of_beq_eq_true
abbrev eP:=@Nat.eq_zero_or_pos
abbrev aw:=@Nat.le_of_ble_eq_true
abbrev aj:=@Nat.le_refl
abbrev bp:=@Nat.le_trans
abbrev di:=@Nat.lt_of_lt_of_le
abbrev aN:=@Nat.lt_or_ge
abbrev pE:=@Nat.lt_succ_self
abbrev pv:=@Nat.lt_trichotomy
abbrev gk:=@Nat.min_eq_left
abbrev gO:=@Nat.mul_le_mul_right
abbrev gN:=@Nat.mul_one
abbrev gM:=@Nat.one_mul
abbrev jo:=@Nat.sub_self
abbrev au:=@Nat.succ_pos
abbrev cC:=@Nat.zero_add
abbrev aG:=@Nat.zero_le
abbrev jm:=@Nat.zero_mul
abbrev nB:=@Ne.symm
abbrev mC:=@Go.Oper.semAt_eq
abbrev pu:=@Go.Oper.uponIn_value
abbrev mL:=@Option.bind_eq_some_iff
abbrev fO:=@Option.bind_some
abbrev kH:=@Option.map_some
abbrev kG:=@Option.some.inj
abbrev aq:=@Option.some.injEq
abbrev ck:=@Prod.mk.injEq
abbrev dw:=@Go.Result.andThen_ok
abbrev dk:=@Go.RowKit.Below.heap_alloc
abbrev cB:=@Go.Sem.run_bind
abbrev ny:=@Go.Sem.run_pure
abbrev ii:=@Sum.inl.injEq
abbrev cU:=@Go.World.cell?_of_block
abbrev pk:=@Go.World.keptBut_mono
abbrev ga:=@beq_iff_eq
abbrev fe:=@Go.cell_of_row
abbrev pb:=@cond_false
abbrev mI:=@cond_true
abbrev fI:=@congrArg
abbrev cf:=@decide_eq_false
abbrev aZ:=@decide_eq_false_iff_not
abbrev du:=@decide_eq_true
abbrev ag:=@decide_eq_true_eq
abbrev pq:=@dif_neg
abbrev pp:=@dif_pos
abbrev oW:=@Go.execOp_put
abbrev pD:=@exists_eq_or_imp
abbrev nZ:=@Go.getD_set_ne
abbrev iZ:=@if_false
abbrev af:=@if_neg
abbrev ad:=@if_pos
abbrev ne:=@if_true
abbrev fd:=@not_false_eq_true
abbrev oO:=@of_decide_eq_false
abbrev po:=@of_decide_eq_true
abbrev lg:=@or_false
abbrev oJ:=@Go.ready_mono
abbrev pI:=@Go.run_eqGuard_agg
abbrev pH:=@Go.run_equalIn_agg
abbrev aI:=@Go.run_underlying
abbrev nJ:=@true_and
abbrev jt:=@Go.wpIn_mono
abbrev kK:=@Go.wpListIn_plain
namespace Go.Lt
structure Fr where
 n:Nat
 df:List Deferred
 ro:Option Nat
instance:CoeOut Fr Nat:=⟨Fr.n⟩
def fen (r:Option Nat):Fence:={ Fence.wide with round:=r}
def act (n:Fr) (e:Nat→Value):Act:={ tmps:=((List.range n.n).map e).toArray,defers:=n.df}
def ev (n:Nat) (e:Nat→Value):Operand→Value
 | .tmp t=>cond (Nat.ble (t+1) n) (e t) undef
 | .const v=>v
 | .global g=> .pointer (some ⟨g,0,none⟩)
 | .func f=> .func (.func f) #[] #[]
def up (e:Nat→Value) (d:Nat) (v:Value):Nat→Value:=fun t=>cond (Nat.beq t d) v (e t)
def upO (e:Nat→Value):Option Nat→Value→(Nat→Value)
 | some d,v=>up e d v
 | none,_=>e
theorem dv (n:Fr) (e:Nat→Value):(act n e).eval=ev n e:=by
 funext x
 cases x with
 | tmp t=>
  simp only [Act.eval,act,ev];by_cases h:t < n.n
  ·have:Nat.ble (t+1) n.n=true:=dD h;simp [h,this]
  ·have:Nat.ble (t+1) n.n=false:=by
    cases hb:Nat.ble (t+1) n.n with
    | false=>rfl
    | true=>exact absurd (aw hb) h
   simp [h,this]
 | const v=>rfl
 | global g=>rfl
 | func f=>rfl
theorem fN (n:Fr) (e:Nat→Value) (d:Option Nat) (v:Value):(act n e).put d v=act n (upO e d v):=by
 cases d with
 | none=>rfl
 | some d=>
  simp only [Act.put,act,upO]
  congr 1
  apply Array.ext
  ·simp
  ·intro i h1 h2;simp only [jp,aD,pw,Array.size_setIfInBounds] at h1 h2;by_cases hi:d=i
   ·subst hi; simp [up]
   ·have:Nat.beq i d=false:=by
     cases hb:Nat.beq i d with
     | false=>rfl
     | true=>exact absurd (dC hb).symm hi
    simp [up,hi,this]
def oD:Exit→Prop
 | .panic _=>False
 | .outgrown=>False
 | _=>True
def iU (n:Fr) (Q:Exit→(Nat→Value)→World→Prop):Exit→Act→World→Prop:=fun x a w=>oD x∧∃e,a=act n e∧Q x e w
def W (P:Program) (n:Fr) (c:Code) (Q:Exit→(Nat→Value)→World→Prop) (e:Nat→Value) (w:World):Prop:=c.wpIn (fen n.ro) 0 P (iU n Q) (act n e) w
def ge (K:(Nat→Value)→World→Prop) (Q:Exit→(Nat→Value)→World→Prop):Exit→(Nat→Value)→World→Prop
 | .normal,e,w=>K e w
 | x,e,w=>Q x e w
def dU (id:Nat) (Q:Exit→(Nat→Value)→World→Prop):Exit→(Nat→Value)→World→Prop
 | .exit i,e,w=>cond (Nat.beq i id) (Q .normal e w) (Q (.exit i) e w)
 | x,e,w=>Q x e w
section
variable {P:Program} {n:Fr} {Q Q':Exit→(Nat→Value)→World→Prop} {e:Nat→Value} {w:World} {a b:Code}
theorem W.mono (h:W P n a Q e w) (hq:∀x e w,Q x e w→Q' x e w):W P n a Q' e w:=
 jt h fun x _ w ⟨ht,e,ha,hQ⟩=>⟨ht,e,ha,hq x e w hQ⟩
theorem W.seq (h:W P n a (ge (W P n b Q) Q) e w):W P n (a.seq b) Q e w:=
 wpIn_seq (jt h fun x a' w' ⟨ht,e',ha,hQ⟩=>by
  subst ha
  cases x with
  | normal=>exact hQ
  | _=>exact ⟨ht,e',rfl,hQ⟩)
theorem W.seqJ (J:(Nat→Value)→World→Prop) (h:W P n a (ge J Q) e w) (hJ:∀e w,J e w→W P n b Q e w):W P n (a.seq b) Q e w:=
 W.seq (W.mono h fun x e w hx=>by cases x <;> first | exact hJ _ _ hx | exact hx)
theorem W.skip (h:Q .normal e w):W P n .skip Q e w:=wpIn_skip ⟨trivial,e,rfl,h⟩
theorem W.ret (h:Q .ret e w):W P n .ret Q e w:=wpIn_ret ⟨trivial,e,rfl,h⟩
theorem W.exit {id:Nat} (h:Q (.exit id) e w):W P n (.exit id) Q e w:=wpIn_exit ⟨trivial,e,rfl,h⟩
theorem W.block {id:Nat} (h:W P n a (dU id Q) e w):W P n (.block id a) Q e w:=
 wpIn_block (jt h fun x a' w' ⟨ht,e',ha,hQ⟩=>by
  subst ha
  cases x with
  | exit i=>
   simp only [Exit.inBlock];by_cases hi:i=id
   ·subst hi;rw [ad rfl];exact ⟨trivial,e',rfl,by simpa [dU] using hQ⟩
   ·rw [af hi];have:Nat.beq i id=false:=by
     cases hb:Nat.beq i id with
     | false=>rfl
     | true=>exact absurd (dC hb) hi
    exact ⟨trivial,e',rfl,by simpa [dU,this] using hQ⟩
  | _=>exact ⟨ht,e',rfl,hQ⟩)
theorem W.cond {c:Operand} {t:Bool} (hc:ev n e c= .bool t) (ht:t=true→W P n a Q e w) (hf:t=false→W P n b Q e w):W P n (.cond c a b) Q e w:=
 wpIn_cond_split (by rw [dv]; exact hc) ht hf
def WL (P:Program) (ops:Array Oper) (n:Fr) (Q:Exit→(Nat→Value)→World→Prop) (l:List Oper) (e:Nat→Value) (w:World):Prop:=
 wpListIn (fen n.ro) 0 P ops (iU n Q) l (act n e) w
theorem W.region {id:Nat} {l:List Oper} (h:WL P l.toArray n Q l e w):W P n (.region id l.toArray false) Q e w:=wpIn_region_lit h
variable {ops:Array Oper} {o:Oper} {rest:List Oper}
theorem WL.nil (h:Q .normal e w):WL P ops n Q [] e w:=⟨trivial,e,rfl,h⟩
theorem fD {r:Option Nat} {ρ:Operand→Value} {w w':World} {x:Next} (h:(execOp ρ o).run P w= .ok x w') (hx:∀d,x≠ .defer d):(o.semAt r ρ).run P w= .ok x w':=by
 by_cases hd:∀c,o.op≠ .defer c
 ·rw [mC r ρ o hd]; exact h
 ·obtain ⟨c,hc⟩:=Classical.not_forall.1 hd;have hc:=Classical.not_not.1 hc;unfold execOp at h;rw [hc] at h;simp only [cB,ny] at h
  cases hr:(resolve ρ c o.type).run P w with
  | ok d w1=>rw [hr] at h; simp only [Result.andThen,Result.ok.injEq] at h; exact absurd h.1.symm (hx d)
  | halt h1 w1=>rw [hr] at h; simp [Result.andThen] at h
theorem je {r:Option Nat} {k:Nat} {f:FuncId} {args:Array Value} {w:World} {R:Ending→World→Prop} (h:Calls P f args w R):CallsIn (fen r) k P f args w R:=(callsIn_wide (n:=k)).2 h
theorem lj {v:Value} {w':World} {K:Act→World→Prop} {Qa:Exit→Act→World→Prop} (hr:(execOp (ev n e) o).run P w= .ok (.value v) w') (h:K (act n (upO e o.dst v)) w'):o.wpIn (fen n.ro) 0 P (act n e) w K Qa:=by
 refine ⟨fun _ _=>trivial,?_⟩;rw [dv,fD hr (by simp),pu,fN];exact h
theorem mG {w':World} {K:Act→World→Prop} {Qa:Exit→Act→World→Prop} (hr:(execOp (ev n e) o).run P w= .ok .skip w') (h:K (act n (upO e o.dst undef)) w'):o.wpIn (fen n.ro) 0 P (act n e) w K Qa:=by
 refine ⟨fun _ _=>trivial,?_⟩;rw [dv,fD hr (by simp),Oper.uponIn_skip,fN];exact h
theorem jR {f:FuncId} {args:Array Value} {w':World} {K:Act→World→Prop} {Qa:Exit→Act→World→Prop} (hr:(execOp (ev n e) o).run P w= .ok (.enter f args) w')
  (hc:Calls P f args w' fun x w''=>∃v,x= .returned v∧K (act n (upO e o.dst v)) w''):o.wpIn (fen n.ro) 0 P (act n e) w K Qa:=by
 refine ⟨fun _ _=>trivial,?_⟩;rw [dv,fD hr (by simp),Oper.uponIn_enter];refine ⟨fun h=>(by cases h),(je hc).mono ?_⟩;rintro x w'' ⟨v,rfl,h⟩;simp only [fN];exact h
theorem WL.val {v:Value} {w':World} (hg:o.guard=none) (hr:(execOp (ev n e) o).run P w= .ok (.value v) w') (h:WL P ops n Q rest (upO e o.dst v) w'):WL P ops n Q (o :: rest) e w:=
 kK hg fun K hK=>lj hr (hK _ _ h)
theorem WL.do_ {w':World} (hg:o.guard=none) (hr:(execOp (ev n e) o).run P w= .ok .skip w') (h:WL P ops n Q rest (upO e o.dst undef) w'):WL P ops n Q (o :: rest) e w:=
 kK hg fun K hK=>mG hr (hK _ _ h)
theorem WL.call {f:FuncId} {args:Array Value} {w':World} (hg:o.guard=none) (hr:(execOp (ev n e) o).run P w= .ok (.enter f args) w')
  (hc:Calls P f args w' fun x w''=>∃v,x= .returned v∧WL P ops n Q rest (upO e o.dst v) w''):WL P ops n Q (o :: rest) e w:=
 kK hg fun K hK=>jR hr (hc.mono fun x w'' ⟨v,hx,h⟩=>⟨v,hx,hK _ _ h⟩)
def yl (ops:Array Oper) (n:Nat) (e:Nat→Value) (j:Nat):Option Bool:=
 match (ops[j]?).bind Oper.dst with
 | some d=>match ev n e (.tmp d) with
  | .bool b=>some b
  | _=>none
 | none=>none
def bU (ops:Array Oper) (n:Nat) (e:Nat→Value) (o:Oper):Bool:=
 match o.guard with
 | none=>true
 | some (j,want)=>yl ops n e j==some want
theorem dK (ops:Array Oper) (n:Fr) (e:Nat→Value) (o:Oper) (h:∀d,(∃j:Nat,(ops[j]?).bind Oper.dst=some d)→d < n.n):
  Region.wanted o (yielded ops (act n e).tmps)=bU ops n e o:=by
 unfold Region.wanted bU
 cases hg:o.guard with
 | none=>rfl
 | some jw=>
  obtain ⟨j,want⟩:=jw;simp only
  congr 1
  unfold yielded yl
  cases hd:(ops[j]?).bind Oper.dst with
  | none=>rfl
  | some d=>
   have hdn:=h d ⟨j,hd⟩;have:Nat.ble (d+1) n.n=true:=dD hdn;simp only [act,ev,fO,this,mI];simp only [aB,ff,gZ hdn,kH]
   cases e d <;> rfl
def bg (n:Nat):List Oper→Bool
 | []=>true
 | o :: l=>(match o.dst with | some d=>Nat.ble (d+1) n | none=>true) && bg n l
theorem cy {n:Nat} {l:List Oper} (h:bg n l=true) (d:Nat) (hd:∃j:Nat,(l.toArray[j]?).bind Oper.dst=some d):d < n:=by
 obtain ⟨j,hj⟩:=hd;simp only [aB] at hj
 induction l generalizing j with
 | nil=>simp at hj
 | cons o l ih=>
  simp only [bg,ac] at h
  cases j with
  | zero=>
   simp only [fP,fO] at hj;rw [hj] at h;exact aw h.1
  | succ j=>exact ih h.2 j (by simpa using hj)
theorem WL.pass {l:List Oper} (hs:bg n l=true) (hw:bU l.toArray n e o=false) (h:WL P l.toArray n Q rest (upO e o.dst undef) w):WL P l.toArray n Q (o :: rest) e w:=by
 have hww:Region.wanted o (yielded l.toArray (act n e).tmps)=false:=by rw [dK _ _ _ _ (cy hs)]; exact hw
 unfold WL wpListIn;rw [af (by rw [hww]; simp),fN];exact ⟨fun _ _=>trivial,h⟩
theorem WL.want {l:List Oper} (hs:bg n l=true) (hw:bU l.toArray n e o=true) (h:WL P l.toArray n Q ({ o with guard:=none} :: rest) e w):WL P l.toArray n Q (o :: rest) e w:=by
 have hww:Region.wanted o (yielded l.toArray (act n e).tmps)=true:=by rw [dK _ _ _ _ (cy hs)]; exact hw
 have hg:Region.wanted ({ o with guard:=none}:Oper) (yielded l.toArray (act n e).tmps)=true:=rfl;unfold WL wpListIn at h⊢;rw [ad hww];rw [ad hg] at h;exact h
theorem W.join (J:(Nat→Value)→World→Prop) (h:W P n a (ge J (fun _ _ _=>False)) e w) (hJ:∀e w,J e w→Q .normal e w):W P n a Q e w:=
 W.mono h fun x e w hx=>by cases x <;> first | exact hJ _ _ hx | exact hx.elim
theorem nrm {K:(Nat→Value)→World→Prop} (h:K e w):ge K Q .normal e w:=h
theorem thx {K:(Nat→Value)→World→Prop} {i:Nat} (h:Q (.exit i) e w):ge K Q (.exit i) e w:=h
theorem thr {K:(Nat→Value)→World→Prop} (h:Q .ret e w):ge K Q .ret e w:=h
theorem bkn {i:Nat} (h:Q .normal e w):dU i Q .normal e w:=h
theorem bkr {i:Nat} (h:Q .ret e w):dU i Q .ret e w:=h
theorem bke {i:Nat} (h:Q .normal e w):dU i Q (.exit i) e w:=by
 have:Nat.beq i i=true:=Nat.beq_refl i;simpa [dU,this] using h
theorem bko {i j:Nat} (hij:Nat.beq j i=false) (h:Q (.exit j) e w):dU i Q (.exit j) e w:=by simpa [dU,hij] using h
theorem WL.valb {t b:Bool} {w':World} (ht:t=b) (hg:o.guard=none) (hr:(execOp (ev n e) o).run P w= .ok (.value (.bool t)) w') (h:WL P ops n Q rest (upO e o.dst (.bool b)) w'):WL P ops n Q (o :: rest) e w:=by
 subst ht;exact WL.val hg hr h
theorem WL.val0 {v:Value} (hg:o.guard=none) (hr:(execOp (ev n e) o).run P w= .ok (.value v) w) (h:WL P ops n Q rest (upO e o.dst v) w):WL P ops n Q (o :: rest) e w:=WL.val hg hr h
theorem WL.valb0 {t b:Bool} (ht:t=b) (hg:o.guard=none) (hr:(execOp (ev n e) o).run P w= .ok (.value (.bool t)) w) (h:WL P ops n Q rest (upO e o.dst (.bool b)) w):WL P ops n Q (o :: rest) e w:=WL.valb ht hg hr h
def aU {σ τ:Type}:Nat→(σ→Option (σ ⊕ τ))→σ→Option τ
 | 0,_,_=>none
 | n+1,f,s=>(f s).bind fun x=>match x with
  | .inl s'=>aU n f s'
  | .inr t=>some t
def lpQ {σ τ:Type} (F:σ→(Nat→Value)→World→Prop) (Out:τ→Exit→(Nat→Value)→World→Prop) (x:σ ⊕ τ):Exit→(Nat→Value)→World→Prop
 | .normal,e,w=>∃s,x= .inl s∧F s e w
 | ex,e,w=>∃t,x= .inr t∧Out t ex e w
theorem W.loop {σ τ:Type} {step:σ→Option (σ ⊕ τ)} (F:σ→(Nat→Value)→World→Prop) (Out:τ→Exit→(Nat→Value)→World→Prop)
  (hb:∀s x e w,step s=some x→F s e w→W P n a (lpQ F Out x) e w) {fuel:Nat} {s:σ} {t:τ} (H:aU fuel step s=some t) (h0:F s e w)
  (hQ:∀x e w,Out t x e w→Q x e w):W P n (.loop a) Q e w:=by
 refine wpIn_loop_rounds fuel ?_
 induction fuel generalizing s e w with
 | zero=>cases H
 | succ k ih=>
  rw [roundsIn_succ];simp only [aU] at H
  cases hs:step s with
  | none=>rw [hs] at H; cases H
  | some x=>
   rw [hs] at H;refine jt (hb s x e w hs h0) ?_;rintro y a' w' ⟨ht,e',rfl,hq⟩
   cases x with
   | inl s'=>
    cases y with
    | normal=>
     obtain ⟨s1,h1,h2⟩:=hq;cases h1;exact ih H h2
    | _=>obtain ⟨t1,h1,_⟩:=hq; cases h1
   | inr t'=>
    have:t'=t:=by simpa using H
    subst this
    cases y with
    | normal=>obtain ⟨s1,h1,_⟩:=hq; cases h1
    | _=>obtain ⟨t1,h1,h2⟩:=hq; cases h1; exact ⟨ht,e',rfl,hQ _ _ _ h2⟩
def ar:List Value→Nat→Value
 | [],_=>undef
 | v :: _,0=>v
 | _ :: l,t+1=>ar l t
def dO (P:Program) (fn:Func) (n:Fr) (R:Ending→World→Prop):Exit→(Nat→Value)→World→Prop
 | .normal,e,w=>∃v,(results fn (act n e).tmps).run P w= .ok v w∧R (.returned v) w
 | .ret,e,w=>∃v,(results fn (act n e).tmps).run P w= .ok v w∧R (.returned v) w
 | _,_,_=>False
theorem nv (n:Nat) (l:List Value) (h:l.length≤n):act ⟨n,[],none⟩ (ar l)= { tmps:=l.toArray++Array.replicate (n - l.length) undef,defers:=[]}:=by
 unfold act
 congr 1
 apply Array.ext';apply List.ext_getElem
 ·simp; omega
 ·intro i h1 h2;simp only [List.getElem_map,List.getElem_range,Array.toList_append,Array.toList_replicate];have key:∀(l:List Value) (i:Nat) (h:i < l.length),ar l i=l[i]:=by
   intro l
   induction l with
   | nil=>intro i h; simp at h
   | cons v l ih=>
    intro i h
    cases i with
    | zero=>rfl
    | succ i=>exact ih i (by simpa using h)
  have key2:∀(l:List Value) (i:Nat) (h:l.length≤i),ar l i=undef:=by
   intro l
   induction l with
   | nil=>intro i h; rfl
   | cons v l ih=>
    intro i h
    cases i with
    | zero=>simp at h
    | succ i=>exact ih i (by simpa using h)
  by_cases hi:i < l.length
  ·rw [mD hi]; exact key l i hi
  ·rw [List.getElem_append_right (by omega)]; rw [key2 l i (by omega)]; simp
theorem enter {f:FuncId} {fn:Func} {code:Code} {n:Nat} {l:List Value} {w:World} {R:Ending→World→Prop} (hf:P.funcs[f]? = some fn) (hb:fn.body=some code) (hn:fn.ntmps=n)
  (hl:Nat.ble l.length n=true) (h:W P ⟨n,[],none⟩ code (dO P fn ⟨n,[],none⟩ R) (ar l) w):Calls P f l.toArray w R:=by
 subst hn;have hl:=aw hl;refine (callsIn_wide (n:=0)).1 (callsIn_of_wp hf hb trivial ?_);rw [jp,←nv _ l hl];refine jt h ?_;rintro x a w' ⟨_,e',rfl,hq⟩
 cases x <;> first | exact ⟨rfl,hq⟩ | exact hq.elim
theorem cY (n:Fr) (e:Nat→Value) (t:Nat):(act n e).tmps.getD t undef=ev n e (.tmp t):=by
 rw [←dv]; rfl
theorem oI {fn:Func} {R:Ending→World→Prop} (hr:fn.results= #[]) (h:R (.returned (.tuple #[])) w):dO P fn n R .ret e w:=
 ⟨_,results_none hr _ _ _,h⟩
theorem oX {fn:Func} {R:Ending→World→Prop} (hr:fn.results= #[]) (h:R (.returned (.tuple #[])) w):dO P fn n R .normal e w:=
 ⟨_,results_none hr _ _ _,h⟩
theorem oH {fn:Func} {R:Ending→World→Prop} {t:Nat} {v:Value} (hr:fn.results= #[.tmp t]) (hv:ev n e (.tmp t)=v) (h:R (.returned v) w):dO P fn n R .ret e w:=
 ⟨_,results_tmp hr _ _ _,by rw [cY,hv]; exact h⟩
theorem oG {fn:Func} {R:Ending→World→Prop} {t u:Nat} {v v':Value} (hr:fn.results= #[.tmp t,.tmp u]) (hv:ev n e (.tmp t)=v) (hu:ev n e (.tmp u)=v') (h:R (.returned (.tuple #[v,v'])) w):dO P fn n R .ret e w:=
 ⟨_,results_tmp2 hr _ _ _,by rw [cY,cY,hv,hu]; exact h⟩
def ups (e:Nat→Value):List (Nat×Value)→(Nat→Value)
 | []=>e
 | (t,v) :: l=>up (ups e l) t v
def holds (e:Nat→Value):List (Nat×Value)→Prop
 | []=>True
 | (t,v) :: l=>e t=v∧holds e l
theorem lR (e:Nat→Value) {t:Nat} {v:Value} (h:e t=v):up e t v=e:=by
 funext i
 unfold up;by_cases hb:Nat.beq i t=true
 ·rw [hb,dC hb]; exact h.symm
 ·simp [hb]
theorem iQ:∀{l:List (Nat×Value)} {e:Nat→Value},holds e l→e=ups e l
 | [],_,_=>rfl
 | (t,v) :: l,e,h=>by
  have:=iQ (l:=l) h.2;rw [ups,←this];exact (lR e h.1).symm
end
def w64 (n:Int):Int:=IntKind.i64.wrap n
def w32 (n:Int):Int:=IntKind.i32.wrap n
def iY (x y:Int):Int:=if y > x then y else x
def gH (x y:Int):Int:=if y < x then y else x
theorem bs {α β:Type} {x:Option α} {f:α→Option β} {r:β} (h:x.bind f=some r):∃a,x=some a∧f a=some r:=by
 cases x with
 | none=>cases h
 | some a=>exact ⟨a,rfl,h⟩
theorem it {α:Type} {b:Bool} {x y:Option α} {r:α} (hb:b=true) (h:(if b=true then x else y)=some r):x=some r:=by rw [ad hb] at h; exact h
theorem ie {α:Type} {b:Bool} {x y:Option α} {r:α} (hb:b=false) (h:(if b=true then x else y)=some r):y=some r:=by rw [af (by simp [hb])] at h; exact h
def orE (t:Bool) (x:Option Bool):Option Bool:=if t=true then some true else x
def cW (t:Bool) (x:Option Bool):Option Bool:=if t=true then x else some false
theorem orT {t:Bool} {x:Option Bool} {d:Bool} (ht:t=true) (h:orE t x=some d):d=true:=by simp [orE,ht] at h; exact h
theorem orF {t:Bool} {x:Option Bool} {d:Bool} (ht:t=false) (h:orE t x=some d):x=some d:=by simpa [orE,ht] using h
theorem anT {t:Bool} {x:Option Bool} {d:Bool} (ht:t=true) (h:cW t x=some d):x=some d:=by simpa [cW,ht] using h
theorem anF {t:Bool} {x:Option Bool} {d:Bool} (ht:t=false) (h:cW t x=some d):d=false:=by simp [cW,ht] at h; exact h
end Go.Lt
namespace Go.Lt
structure Cx where
 w:World
 A:Nat→Nat→Prop
 t:Nat→Nat→Option Nat
structure Cx.le (c c':Cx):Prop where
 os:c'.w.os=c.w.os
 output:c'.w.output=c.w.output
 size:c.w.heap.size≤c'.w.heap.size
 cell:∀k o,k < c.w.heap.size→¬c.A k o→c'.w.cell? ⟨k,o,none⟩=c.w.cell? ⟨k,o,none⟩∧¬c'.A k o
 block:∀k,k < c.w.heap.size→(∀o,¬c.A k o)→c'.w.heap[k]? = c.w.heap[k]?
 frz:∀a,a.block < c.w.heap.size→¬c.A a.block a.off→c'.w.frozen? a=c.w.frozen? a
 t:∀g k b,c.t g k=some b→c'.t g k=some b
theorem Cx.le.refl (c:Cx):c.le c:=⟨rfl,rfl,aj _,fun _ _ _ h=>⟨rfl,h⟩,fun _ _ _=>rfl,fun _ _ _=>rfl,fun _ _ _ h=>h⟩
theorem Cx.le.trans {a b c:Cx} (h:a.le b) (k:b.le c):a.le c:=
 ⟨k.os.trans h.os,k.output.trans h.output,bp h.size k.size,fun i o hi hA=>by
  obtain ⟨h1,h2⟩:=h.cell i o hi hA;obtain ⟨k1,k2⟩:=k.cell i o (di hi h.size) h2;exact ⟨k1.trans h1,k2⟩,fun i hi hA=>(k.block i (di hi h.size) fun o=>(h.cell i o hi (hA o)).2).trans (h.block i hi hA),
  fun a ha hA=>(k.frz a (di ha h.size) (h.cell _ _ ha hA).2).trans (h.frz a ha hA),fun g i b hb=>k.t g i b (h.t g i b hb)⟩
structure Cx.lw (c c':Cx):Prop where
 os:c'.w.os=c.w.os
 output:c'.w.output=c.w.output
 size:c.w.heap.size≤c'.w.heap.size
 cell:∀k o,k < c.w.heap.size→¬c.A k o→c'.w.cell? ⟨k,o,none⟩=c.w.cell? ⟨k,o,none⟩∧¬c'.A k o
 block:∀k vs T f,c.w.heap[k]? = some (.cells vs T f)→(∀o,¬c.A k o)→c'.w.heap[k]? = c.w.heap[k]?
 frz:∀a,a.block < c.w.heap.size→¬c.A a.block a.off→c'.w.frozen? a=c.w.frozen? a
 t:∀g k b,c.t g k=some b→c'.t g k=some b
theorem Cx.le.lw {c c':Cx} (h:c.le c'):c.lw c':=⟨h.os,h.output,h.size,h.cell,fun k _ _ _ hk hA=>h.block k (Array.getElem?_eq_some_iff.1 hk).1 hA,h.frz,h.t⟩
instance {c c':Cx}:Coe (c.le c') (c.lw c'):=⟨Cx.le.lw⟩
structure Cx.but (D:Nat→Prop) (c c':Cx):Prop where
 le:c.le c'
 t:c'.t=c.t
 same:∀k,k < c.w.heap.size→¬D k→c'.w.heap[k]? = c.w.heap[k]?∧∀o,c'.A k o↔c.A k o
def Gr (w w':World):Prop:=w.keptBut w' (fun _=>False)∧(∀a,a.block < w.heap.size→w'.frozen? a=w.frozen? a)∧w.heap.size≤w'.heap.size
theorem Gr.frame {w w':World} (h:Gr w w') (may:MemPlace→Prop):w.keptBut w' may:=pk (fun _ f=>f.elim) h.1
theorem Cx.le.grown {w:World} {c':Cx} (h:Cx.le ⟨w,fun _ _=>False,fun _ _=>none⟩ c'):Gr w c'.w:=
 ⟨⟨h.os,h.output,fun i hi=>by
  rw [h.block i hi fun _=>id];have:=World.keptBut_refl w fun _=>False;exact this.2.2 i hi⟩,fun a ha=>h.frz a ha id,h.size⟩
structure Im (c:Cx) (b o:Nat) (v:Value):Prop where
 lt:b < c.w.heap.size
 nA:¬c.A b o
 cell:c.w.cell? ⟨b,o,none⟩=some v
theorem Im.lw {c c':Cx} {b o:Nat} {v:Value} (h:Im c b o v) (k:c.lw c'):Im c' b o v:=by
 obtain ⟨h1,h2⟩:=k.cell b o h.lt h.nA;exact ⟨di h.lt k.size,h2,h1.trans h.cell⟩
theorem Im.mono {c c':Cx} {b o:Nat} {v:Value} (h:Im c b o v) (k:c.le c'):Im c' b o v:=h.lw k.lw
structure Rp (α:Type) where
 size:Nat
 cells:Cx→List Value→α→Prop
 len:∀{c l x},cells c l x→l.length=size
 one:∀{c l x},cells c l x→∀v∈l,v.oneCell'=true
 mono:∀{c c' l x},c.lw c'→cells c l x→cells c' l x
def RI (k:IntKind):Rp Int where
 size:=1
 cells:=fun _ l n=>l= [.int k n]
 len:=fun h=>by simp [h]
 one:=fun h v hv=>by rw [h] at hv; simp at hv; subst hv; rfl
 mono:=fun _ h=>h
def Sl {α:Type} (R:Rp α) (c:Cx) (v:Value) (xs:List α):Prop:=
 ∃a cap,v= .slice a xs.length cap∧xs.length≤cap∧cap≤maxLen∧
  ∀i x,xs[i]? = some x→∃b off l,a=some ⟨b,off,none⟩∧R.cells c l x∧∀j u,l[j]? = some u→Im c b (off+i * R.size+j) u
theorem Sl.lw {α:Type} {R:Rp α} {c c':Cx} {v:Value} {xs:List α} (h:Sl R c v xs) (k:c.lw c'):Sl R c' v xs:=by
 obtain ⟨a,cap,h1,h2,h3,h4⟩:=h;refine ⟨a,cap,h1,h2,h3,fun i x hx=>?_⟩;obtain ⟨b,off,l,e,hl,hc⟩:=h4 i x hx;exact ⟨b,off,l,e,R.mono k hl,fun j u hu=>(hc j u hu).lw k⟩
theorem Sl.mono {α:Type} {R:Rp α} {c c':Cx} {v:Value} {xs:List α} (h:Sl R c v xs) (k:c.le c'):Sl R c' v xs:=h.lw k.lw
theorem Sl.one {α:Type} {R:Rp α} {c:Cx} {v:Value} {xs:List α} (h:Sl R c v xs):v.oneCell'=true:=by
 obtain ⟨a,cap,rfl,_⟩:=h; rfl
theorem Sl.nil {α:Type} (R:Rp α) (c:Cx) (a:Option Addr) (cap:Nat) (h:cap≤maxLen):Sl R c (.slice a 0 cap) []:=
 ⟨a,cap,rfl,aG _,h,fun i x hx=>by simp at hx⟩
theorem Sl.nl {α:Type} (R:Rp α) (c:Cx):Sl R c (.slice none 0 0) []:=Sl.nil R c none 0 (aG _)
def RL {α:Type} (R:Rp α):Rp (List α) where
 size:=1
 cells:=fun c l xs=>∃v,l= [v]∧Sl R c v xs
 len:=fun ⟨v,h,_⟩=>by simp [h]
 one:=fun ⟨v,h,hs⟩ u hu=>by rw [h] at hu; simp at hu; subst hu; exact hs.one
 mono:=fun k ⟨v,h,hs⟩=>⟨v,h,hs.lw k⟩
structure Fz (c:Cx) (b:Nat):Prop where
 lt:b < c.w.heap.size
 nA:∀o,¬c.A b o
 blk:∃vs T,c.w.heap[b]? = some (.cells vs T (0,0))
theorem Fz.lw {c c':Cx} {b:Nat} (h:Fz c b) (k:c.lw c'):Fz c' b:=by
 obtain ⟨vs,T,hb⟩:=h.blk;exact ⟨di h.lt k.size,fun o=>(k.cell b o h.lt (h.nA o)).2,vs,T,(k.block b _ _ _ hb h.nA).trans hb⟩
def sb:Value→Nat
 | .slice (some a) _ _=>a.block
 | _=>0
def so:Value→Nat
 | .slice (some a) _ _=>a.off
 | _=>0
theorem Sl.at {α:Type} {R:Rp α} {c:Cx} {v:Value} {xs:List α} (h:Sl R c v xs) {i:Nat} {x:α} (hx:xs[i]? = some x):
  ∃l,R.cells c l x∧∀j u,l[j]? = some u→Im c (sb v) (so v+i * R.size+j) u:=by
 obtain ⟨a,cap,rfl,_,_,h4⟩:=h;obtain ⟨b,off,l,rfl,hl,hc⟩:=h4 i x hx;exact ⟨l,hl,hc⟩
def idx {α:Type} (xs:List α) (i:Int):Option α:=if 0≤i then xs[i.toNat]? else none
def slc {α:Type} (xs:List α) (i j:Int):Option (List α):=if 0≤i∧i≤j∧j≤xs.length then some ((xs.drop i.toNat).take (j - i).toNat) else none
def far:Nat:=1099511627776
def app {α:Type} (xs ys:List α):Option (List α):=if xs.length+ys.length≤far then some (xs++ys) else none
def gV {α:Type} (xs:List α) (i:Int) (x:α):Option (List α):=if 0≤i∧i < xs.length then some (xs.set i.toNat x) else none
theorem aH {α:Type} {xs:List α} {i:Int} {x:α} (h:idx xs i=some x):xs[i.toNat]? = some x:=by
 unfold idx at h;split at h
 ·exact h
 ·cases h
theorem lz {α:Type} {xs:List α} {i:Int} {x:α} (h:idx xs i=some x):0≤i∧i < xs.length:=by
 have:=aH h;unfold idx at h;split at h
 ·have:=(List.getElem?_eq_some_iff.1 this).1;omega
 ·cases h
structure En where
 v:Value
 T:TypeId
 vs:List Value
 lim:Nat
def blk:Value→Option Nat
 | .pointer (some a)=>some a.block
 | .slice (some a) _ _=>some a.block
 | _=>none
def bk:Value→Option Nat
 | .pointer (some a)=>some a.block
 | .slice (some a) _ _=>some a.block
 | .map (some b)=>some b
 | _=>none
def mp:Value→Bool
 | .map _=>true
 | _=>false
theorem ig {v:Value} {b:Nat} (h:blk v=some b):bk v=some b∧mp v=false:=by
 unfold blk at h;split at h
 ·exact ⟨h,rfl⟩
 ·exact ⟨h,rfl⟩
 ·cases h
def unE:List Value→List MapEntry
 | k :: v :: .int _ n :: l=>⟨k,v,n.toNat⟩ :: unE l
 | _=>[]
def mkE:List MapEntry→List Value
 | []=>[]
 | e :: l=>e.key :: e.val :: .int .i64 e.born :: mkE l
theorem jP:∀l:List MapEntry,unE (mkE l)=l
 | []=>rfl
 | e :: l=>by simp only [mkE,unE,jP l,pB]
def En.ob (e:En):Obj:=cond (mp e.v) (.map (unE e.vs).toArray e.T) (.cells e.vs.toArray e.T (0,0))
def En.on (e:En) (c:Cx):Prop:=∀b,bk e.v=some b→c.w.heap[b]? = some e.ob∧∀o,c.A b o↔e.lim≤o
theorem En.on.ce {e:En} {c:Cx} {b:Nat} (h:e.on c) (hb:blk e.v=some b):c.w.heap[b]? = some (.cells e.vs.toArray e.T (0,0))∧∀o,c.A b o↔e.lim≤o:=by
 have:=h b (ig hb).1;unfold En.ob at this
 rwa [(ig hb).2] at this
theorem En.on.mk {e:En} {c:Cx} {b:Nat} (hb:blk e.v=some b) (h:c.w.heap[b]? = some (.cells e.vs.toArray e.T (0,0))∧∀o,c.A b o↔e.lim≤o):e.on c:=by
 intro b' hb';rw [(ig hb).1] at hb';cases hb';unfold En.ob;rw [(ig hb).2];exact h
def apart (e e':En):Prop:=∀b,bk e.v=some b→bk e'.v=some b→False
def jC:En:=⟨.nilIface,0,[],0⟩
abbrev Gm:=Nat→Nat→List En
def at_ (G:Gm) (F:List En):Nat ⊕ (Nat×Nat×Nat)→Option En
 | .inl k=>F[k]?
 | .inr (g,k,r)=>(G g k)[r]?
def gq {ι:Type} (c:Cx) (M:ι→Option En):Prop:=(∀i e,M i=some e→e.on c)∧∀i j e e',M i=some e→M j=some e'→i≠j→apart e e'
theorem En.on.lt {e:En} {c:Cx} {b:Nat} (h:e.on c) (hb:bk e.v=some b):b < c.w.heap.size:=(Array.getElem?_eq_some_iff.1 (h b hb).1).1
theorem En.on.keep {e:En} {c c':Cx} (h:e.on c) (k:∀b,bk e.v=some b→c'.w.heap[b]? = c.w.heap[b]?∧∀o,c'.A b o↔c.A b o):e.on c':=fun b hb=>
 ⟨(k b hb).1.trans (h b hb).1,fun o=>((k b hb).2 o).trans ((h b hb).2 o)⟩
theorem mh (c:Cx):jC.on c:=fun b hb=>by cases hb
theorem jB (e:En):apart jC e:=fun b hb=>by cases hb
theorem jK (e:En):apart e jC:=fun b _ hb=>by cases hb
theorem gq.upd {ι:Type} {c c':Cx} {M M':ι→Option En} (h:gq c M) (i:ι) {D:Nat→Prop} (hb:c.but D c') (hD:∀b,D b→∃e,M i=some e∧bk e.v=some b) (hM:∀j,j≠i→M' j=M j)
  {e':En} (hi:M' i=some e') (hon:e'.on c') (hnew:∀b,bk e'.v=some b→(∃e,M i=some e∧bk e.v=some b)∨c.w.heap.size≤b):gq c' M':=by
 have key:∀j e,j≠i→M' j=some e→e.on c':=fun j e hj he=>by
  rw [hM j hj] at he;refine (h.1 j e he).keep fun b hbe=>hb.same b ((h.1 j e he).lt hbe) fun hd=>?_;obtain ⟨e2,h2,h3⟩:=hD b hd;exact h.2 j i e e2 he h2 hj b hbe h3
 have far:∀j e,j≠i→M' j=some e→apart e e':=fun j e hj he b h1 h2=>by
  rw [hM j hj] at he;rcases hnew b h2 with ⟨e2,h3,h4⟩ | h3
  ·exact h.2 j i e e2 he h3 hj b h1 h4
  ·exact absurd ((h.1 j e he).lt h1) (Nat.not_lt.2 h3)
 classical
 refine ⟨fun j e he=>?_,fun j k e e2 he he2 hjk=>?_⟩
 ·by_cases hj:j=i
  ·subst hj; rw [hi] at he; cases he; exact hon
  ·exact key j e hj he
 ·by_cases hj:j=i
  ·subst hj;rw [hi] at he; cases he;exact fun b h1 h2=>far k e2 (nB hjk) he2 b h2 h1
  ·by_cases hk:k=i
   ·subst hk; rw [hi] at he2; cases he2; exact far j e hj he
   ·rw [hM j hj] at he; rw [hM k hk] at he2; exact h.2 j k e e2 he he2 hjk
theorem gq.re {ι κ:Type} {c:Cx} {M:ι→Option En} {M':κ→Option En} (h:gq c M) (f:κ→ι) (hf:∀k e,M' k=some e→M (f k)=some e) (inj:∀k k' e e',M' k=some e→M' k'=some e'→f k=f k'→k=k'):gq c M':=
 ⟨fun k e he=>h.1 _ e (hf k e he),fun k k' e e' he he' hne=>h.2 _ _ e e' (hf k e he) (hf k' e' he') fun hh=>hne (inj k k' e e' he he' hh)⟩
structure Own (c:Cx) (G:Gm) (F:List En):Prop where
 m:gq c (at_ G F)
 t0:∀g k,G g k= []→c.t g k=none
section
variable {c c':Cx} {G:Gm} {F:List En}
theorem Own.on (O:Own c G F) (k:Nat) {e:En} (h:F[k]? = some e):e.on c:=O.m.1 (.inl k) e h
theorem Own.keep (O:Own c G F) (h:c.but (fun _=>False) c'):Own c' G F:=
 ⟨⟨fun i e he=>(O.m.1 i e he).keep fun b hb=>h.same b ((O.m.1 i e he).lt hb) id,O.m.2⟩,fun g k hk=>by rw [h.t]; exact O.t0 g k hk⟩
theorem Own.set (O:Own c G F) (k:Nat) {e e':En} {D:Nat→Prop} (hk:F[k]? = some e) (hb:c.but D c') (hD:∀b,D b→bk e.v=some b) (hon:e'.on c') (hnew:∀b,bk e'.v=some b→bk e.v=some b∨c.w.heap.size≤b):Own c' G (F.set k e'):=
 ⟨gq.upd O.m (.inl k) hb (fun b h=>⟨e,hk,hD b h⟩) (fun j hj=>by
  cases j with
  | inl j=>exact gP (fun e=>hj (by rw [e]))
  | inr j=>rfl) (e':=e') (gd (List.getElem?_eq_some_iff.1 hk).1) hon (fun b h=>(hnew b h).imp (fun h=>⟨e,hk,h⟩) id),fun g k hk=>by rw [hb.t]; exact O.t0 g k hk⟩
theorem Own.sel {F0:List En} {L:List En} (ix:List Nat) (O:Own c G (L++F0)) (hn:ix.Nodup) {L':List En} (hL:ix.map (fun i=>L[i]?)=L'.map some):Own c G (L'++F0):=by
 have hlen:ix.length=L'.length:=by have:=fI List.length hL; simpa using this
 have hget:∀(i:Nat) (hi:i < ix.length),L[ix[i]]? = some (L'[i]'(hlen▸ hi)):=fun i hi=>by
  have:=fI (fun l=>l[i]?) hL;simpa [ai hi,ai (hlen▸ hi:i < L'.length)] using this
 refine ⟨gq.re O.m (fun j=>match j with
  | .inl j=>if h:j < ix.length then .inl ix[j] else .inl (j - ix.length+L.length)
  | .inr j=> .inr j) ?_ ?_,O.t0⟩
 ·intro j e he
  cases j with
  | inr j=>exact he
  | inl j=>
   by_cases hj:j < ix.length
   ·simp only [hj,pp];have h2:=hget j hj;have hlt:=(List.getElem?_eq_some_iff.1 h2).1;simp only [at_] at he⊢;rw [az (hlen▸ hj),ai (hlen▸ hj)] at he;rw [az hlt,h2,he]
   ·simp only [hj,pq,fd];simp only [at_] at he⊢;rw [aE (by omega)] at he;rw [aE (by omega),←he]
    congr 1
    omega
 ·intro j j' e e' he he' hh
  cases j with
  | inr j=>
   cases j' with
   | inr j'=>exact hh
   | inl j'=>by_cases hj:j' < ix.length <;> simp [hj] at hh
  | inl j=>
   cases j' with
   | inr j'=>by_cases hj:j < ix.length <;> simp [hj] at hh
   | inl j'=>
    by_cases hj:j < ix.length
    ·have h1:=(List.getElem?_eq_some_iff.1 (hget j hj)).1;by_cases hj':j' < ix.length
     ·simp only [hj,hj',pp,ii] at hh;rw [(List.getElem_inj hn).1 hh]
     ·simp only [hj,hj',pp,pq,fd,ii] at hh;omega
    ·by_cases hj':j' < ix.length
     ·have h1:=(List.getElem?_eq_some_iff.1 (hget j' hj')).1;simp only [hj,hj',pp,pq,fd,ii] at hh;omega
     ·simp only [hj,hj',pq,fd,ii] at hh
      congr 1
      omega
theorem Own.cons (O:Own c G F) {e:En} {D:Nat→Prop} (hb:c.but D c') (hD:∀b,¬D b) (hon:e.on c') (hnew:∀b,bk e.v=some b→c.w.heap.size≤b):Own c' G (e :: F):=by
 have O1:gq c (at_ G (jC :: F)):=by
  refine ⟨fun i e he=>?_,fun i j e e' he he' hij=>?_⟩
  ·cases i with
   | inr i=>exact O.m.1 (.inr i) e he
   | inl i=>cases i with
    | zero=>cases he; exact mh c
    | succ i=>exact O.m.1 (.inl i) e he
  ·have pull:∀i,i≠ .inl 0→∀e,at_ G (jC :: F) i=some e→∃i',at_ G F i'=some e∧(match i' with | .inl k=>i= .inl (k+1) | .inr k=>i= .inr k):=fun i hi e he=>by
    cases i with
    | inr i=>exact ⟨.inr i,he,rfl⟩
    | inl i=>cases i with
     | zero=>exact absurd rfl hi
     | succ i=>exact ⟨.inl i,he,rfl⟩
   by_cases hi:i= .inl 0
   ·subst hi; cases he; exact jB _
   ·by_cases hj:j= .inl 0
    ·subst hj; cases he'; exact jK _
    ·obtain ⟨i',h1,h2⟩:=pull i hi e he;obtain ⟨j',h3,h4⟩:=pull j hj e' he';refine O.m.2 i' j' e e' h1 h3 fun hh=>hij ?_;subst hh
     cases i' <;> simp_all
 exact ⟨gq.upd O1 (.inl 0) hb (fun b h=>absurd h (hD b)) (fun j hj=>by
  cases j with
  | inr j=>rfl
  | inl j=>cases j with
   | zero=>exact absurd rfl hj
   | succ j=>rfl) (e':=e) rfl hon (fun b h=> .inr (hnew b h)),fun g k hk=>by rw [hb.t]; exact O.t0 g k hk⟩
theorem Own.addHole (O:Own c G F) {e:En} (he:bk e.v=none):Own c G (e :: F):=
 O.cons (D:=fun _=>False) ⟨Cx.le.refl c,rfl,fun _ _ _=>⟨rfl,fun _=>Iff.rfl⟩⟩ (fun _=>id) (fun b hb=>by rw [he] at hb; cases hb) (fun b hb=>by rw [he] at hb; cases hb)
theorem Own.tail {e:En} (O:Own c G (e :: F)):Own c G F:=
 ⟨gq.re O.m (fun j=>match j with | .inl j=> .inl (j+1) | .inr j=> .inr j) (fun j e he=>by cases j <;> exact he) (fun j j' _ _ _ _ h=>by
  cases j <;> cases j' <;> simp_all),O.t0⟩
variable {α:Type} {Y:Cx→Option Nat→List En→α→Prop} {g:Nat} {xs:List α}
end
end Go.Lt
namespace Go.Lt
def ay (c:Cx) (X:Cx→Value→Prop):Ending→World→Prop:=fun x w=>∃v c',x= .returned v∧w=c'.w∧c.le c'∧X c' v
def Kp (G:Gm) (N:List En) (c:Cx):Prop:=∀i e,at_ G N i=some e→e.on c
def G0:Gm:=fun _ _=>[]
theorem Kp.nil0 {c:Cx}:Kp G0 [] c:=fun i e h=>by
 cases i <;> simp [at_,G0] at h
theorem Kp.cons {c:Cx} {G:Gm} {N:List En} {e:En} (h:e.on c) (k:Kp G N c):Kp G (e :: N) c:=fun i e' h'=>by
 cases i with
 | inl i=>cases i with
  | zero=>cases h'; exact h
  | succ i=>exact k (.inl i) e' h'
 | inr i=>exact k (.inr i) e' h'
theorem Kp.on {c:Cx} {G:Gm} {N:List En} (h:Kp G N c) (k:Nat) {e:En} (hk:N[k]? = some e):e.on c:=h (.inl k) e hk
def nI (ops:Array Oper) (li:List Bool) (i:Nat) (B:List Nat):List Nat:=
 (List.range ops.size).filter fun j=> !li.getD j true && !(j==i) && (ops[j]?).any fun o=>o.after.any fun x=>Region.binds .any x && ((x.on==i && !li.getD i true) || B.contains x.on)
def kL (ops:Array Oper) (li:List Bool) (i:Nat):Nat→List Nat
 | 0=>[]
 | n+1=>nI ops li i (kL ops li i n)
def okB (ops:Array Oper) (li:List Bool) (i:Nat) (D:List Nat):Bool:=
 let B:=kL ops li i ops.size
 B.all (fun j=> !li.getD j true && !(j==i) && (ops[j]?).any fun o=>o.after.any fun x=>Region.binds .any x && (x.on==i || B.contains x.on)) && D.all fun j=>li.getD j true || B.contains j
section
variable {P:Program} {ops:Array Oper} {n:Fr} {r:Option Nat} {Q:Exit→(Nat→Value)→World→Prop} {D:List Nat} {K:Cx→Prop}
def fv (r:Option Nat) (D:List Nat) (K:Cx→Prop) (P:Program) (ops:Array Oper) (Q:Exit→Act→World→Prop):Nat→Array Bool→Act→Cx→Prop
 | 0,listed,a,c=>Region.ready .any ops listed= []∧Q .normal a c.w
 | fuel+1,listed,a,c=>(Region.ready .any ops listed= []→Q .normal a c.w)∧
  ∀i∈Region.ready .any ops listed,wpOpIn (fen r) 0 P ops Q i (fun a' w=>∃c',w=c'.w∧c.le c'∧(i∈D∨(K c→K c'))∧fv r D K P ops Q fuel (listed.setIfInBounds i true) a' c') a c.w
theorem fv.sound {Q:Exit→Act→World→Prop}:∀(fuel:Nat) (listed:Array Bool) (a:Act) (c:Cx),fv r D K P ops Q fuel listed a c→wpAnyIn (fen r) 0 P .any ops Q fuel listed a c.w
 | 0,_,_,_,h=>h
 | _+1,_,_,_,h=>⟨h.1,fun i hi=>wpOpIn_mono (fun a w ⟨c',hw,_,_,h'⟩=>by subst hw; exact fv.sound _ _ _ _ h') (h.2 i hi)⟩
def Yl (Z:Cx→Prop) (P:Program) (ops:Array Oper) (o:Oper) (v:Value) (a:Act) (c:Cx):Prop:=
 (Region.wanted o (yielded ops a.tmps)=true∧∀c',c.le c'→Z c'→(execOp a.eval o).run P c'.w= .ok (.value v) c'.w)∨
 (Region.wanted o (yielded ops a.tmps)=false∧v=undef)
theorem ki (o:Oper) (hs:∀cs b,o.op≠ .select cs b) (a:Act) (dst:Option Tmp) (v:Value) (h:∀d,dst=some d→d∉o.looksAt ops):
  o.semAt r (a.put dst v).eval=o.semAt r a.eval:=by
 by_cases hd:∀c,o.op≠ .defer c
 ·rw [mC _ _ _ hd,mC _ _ _ hd];exact oW o hs a dst v h
 ·obtain ⟨c,hc⟩:=Classical.not_forall.1 hd;have hc:=Classical.not_not.1 hc;have he:resolve (a.put dst v).eval c o.type=resolve a.eval c o.type:=resolve_congr c o.type fun x hx=>Act.eval_put fun d hd hxd=>h d hd (by
   subst hxd;exact cV _ (List.mem_filterMap.2 ⟨.tmp d,by rw [hc]; simpa [Op.operands] using hx,rfl⟩))
  cases r with
  | none=>exact oW o hs a dst v h
  | some l=>
   unfold Oper.semAt;rw [hc];simp only [he]
theorem Yl.wpOp {Z:Cx→Prop} {i:Nat} {o:Oper} {v:Value} {a:Act} {c:Cx} (hz:Z c) (hi:ops[i]? = some o) (hy:Yl Z P ops o v a c) {Q:Exit→Act→World→Prop} {K:Act→World→Prop}
  (h:K (a.put o.dst v) c.w):wpOpIn (fen r) 0 P ops Q i K a c.w:=by
 unfold Go.wpOpIn;simp only [hi];rcases hy with ⟨hw,hv⟩ | ⟨hw,rfl⟩
 ·rw [ad hw];refine ⟨fun _ _=>trivial,?_⟩;rw [fD (hv c (Cx.le.refl c) hz) (by simp),pu];exact h
 ·rw [af (by rw [hw]; simp)];exact ⟨fun _ _=>trivial,h⟩
def Wt (ops:Array Oper) (listed:Array Bool) (i:Nat) (B:List Nat):Prop:=
 ∀j∈B,listed.getD j true=false∧j≠i∧∃oj,ops[j]? = some oj∧∃x∈oj.after,Region.binds .any x=true∧(x.on=i∨x.on∈B)
theorem ia (l:List Bool) (j:Nat):l.toArray.getD j true=l.getD j true:=by simp [bS,lM]
theorem lm {l:List Oper} {li:List Bool} {i:Nat} {D:List Nat} (h:okB l.toArray li i D=true):∃B,Wt l.toArray li.toArray i B∧∀j∈D,li.toArray.getD j true=true∨j∈B:=by
 refine ⟨kL l.toArray li i l.toArray.size,fun j hj=>?_,fun j hj=>?_⟩
 ·simp only [okB,ac,jM] at h;have:=h.1 j hj;simp only [Bool.not_eq_true',beq_eq_false_iff_ne,ne_eq] at this;obtain ⟨⟨h1,h2⟩,h3⟩:=this;refine ⟨by rw [ia]; exact h1,h2,?_⟩
  cases ho:l.toArray[j]? with
  | none=>rw [ho] at h3; cases h3
  | some oj=>
   rw [ho] at h3;simp only [Option.any_some,Array.any_eq_true',ac,cg,ga,nH] at h3;obtain ⟨x,hx,hb,hon⟩:=h3;exact ⟨oj,rfl,x,hx,hb,hon⟩
 ·simp only [okB,ac,jM] at h;have:=h.2 j hj;simp only [cg,nH] at this;rw [ia];exact this
theorem fv.first {Q:Exit→Act→World→Prop} (hP:∀ch a w,¬Q (.panic ch) a w) (hO:∀a w,¬Q .outgrown a w) {i:Nat} {oi:Oper} {v:Value} (hi:ops[i]? = some oi)
  (hsel:∀(j:Nat) (o:Oper) cs b,ops[j]? = some o→o.op≠ .select cs b) {Z:Cx→Prop} {B:List Nat} (hZ:(∀c,Z c)∨Z=K):
  ∀(fuel:Nat) (listed:Array Bool) (a:Act) (c:Cx),
   (∀j oj,ops[j]? = some oj→j≠i→listed.getD j true=false→(∀x∈oj.after,Region.binds .any x=true→x.on≠i)→oi.apart ops oj=true)→
   Wt ops listed i B→((∀c,Z c)∨∀j∈D,listed.getD j true=true∨j∈B)→Z c→
   i∈Region.ready .any ops listed→Yl Z P ops oi v a c→
   fv r D K P ops Q fuel (listed.setIfInBounds i true) (a.put oi.dst v) c→fv r D K P ops Q (fuel+1) listed a c:=by
 have notB:∀(listed:Array Bool) j,Wt ops listed i B→i∈Region.ready .any ops listed→j∈Region.ready .any ops listed→j∉B:=fun listed j hW hr hj hB=>by
  obtain ⟨_,_,oj,hoj,x,hx,hb,hon⟩:=hW j hB;obtain ⟨_,oj',hoj',hall⟩:=mem_ready.1 hj;rw [hoj] at hoj';cases hoj';have h1:=hall x hx hb;have h0:listed.getD x.on true=false:=by
   rcases hon with h | h
   ·rw [h]; exact (mem_ready.1 hr).1
   ·exact (hW _ h).1
  rcases aN x.on listed.size with h' | h'
  ·simp [h'] at h0 h1; rw [h0] at h1; cases h1
  ·simp [nF h'] at h1
 intro fuel
 induction fuel with
 | zero=>
  intro listed a c _ hW hD hz hr hy H;refine ⟨fun h=>(by rw [h] at hr; cases hr),fun j hj=>?_⟩;by_cases hji:j=i
  ·subst hji; exact hy.wpOp hz hi ⟨c,rfl,Cx.le.refl c,.inr id,H⟩
  ·have:=oJ hj hji;rw [H.1] at this;cases this
 | succ fuel ih=>
  intro listed a c hfree hW hD hz hr hy H;refine ⟨fun h=>(by rw [h] at hr; cases hr),fun j hj=>?_⟩;by_cases hji:j=i
  ·subst hji; exact hy.wpOp hz hi ⟨c,rfl,Cx.le.refl c,.inr id,H⟩
  ·have h1:=H.2 j (oJ hj hji);obtain ⟨hjun,oj,hoj,hall⟩:=mem_ready.1 hj;have hnot:∀x∈oj.after,Region.binds .any x=true→x.on≠i:=fun x hx hb heq=>by
    have h1:=hall x hx hb;have h0:=(mem_ready.1 hr).1;rw [heq] at h1;rcases aN i listed.size with h' | h'
    ·simp [h'] at h0 h1; rw [h0] at h1; cases h1
    ·simp [nF h'] at h1
   obtain ⟨ha1,ha2,ha3⟩:=Oper.apart_spec (hfree j oj hoj hji hjun hnot);have hfree':∀k ok,ops[k]? = some ok→k≠i→(listed.setIfInBounds j true).getD k true=false→
     (∀x∈ok.after,Region.binds .any x=true→x.on≠i)→oi.apart ops ok=true:=fun k ok hk hki hun hno=>by
    refine hfree k ok hk hki ?_ hno;by_cases hjk:j=k
    ·subst hjk; exact hjun
    ·rw [nZ true hjk] at hun; exact hun
   have hW':Wt ops (listed.setIfInBounds j true) i B:=fun k hk=>by
    obtain ⟨h1,h2⟩:=hW k hk;refine ⟨?_,h2⟩;have hjk:j≠k:=fun e=>by subst e; exact notB listed j hW hr hj hk
    rw [nZ true hjk];exact h1
   have hD':(∀c,Z c)∨∀k∈D,(listed.setIfInBounds j true).getD k true=true∨k∈B:=hD.imp id fun h k hk=>by
    rcases h k hk with h | h
    ·by_cases hjk:j=k
     ·subst hjk; rw [hjun] at h; cases h
     ·exact .inl (by rw [nZ true hjk]; exact h)
    ·exact .inr h
   have keep:∀(b:Act),b.tmps=a.tmps→∀(u:Value) (c':Cx),c.le c'→Yl Z P ops oi v (b.put oj.dst u) c':=fun b hb u c' hc=>by
    have hbe:b.eval=a.eval:=by funext x; cases x <;> simp [Act.eval,hb]
    have he:execOp (b.put oj.dst u).eval oi=execOp a.eval oi:=hbe▸ oW oi (fun cs b=>hsel i oi cs b hi) _ _ _ ha3;have hw:Region.wanted oi (yielded ops (b.put oj.dst u).tmps)=Region.wanted oi (yielded ops a.tmps):=hb▸ wanted_put oi _ _ _ ha3;unfold Yl at hy⊢;rw [he,hw];exact hy.imp (fun ⟨h1,h2⟩=>⟨h1,fun c'' h hz=>h2 c'' (hc.trans h) hz⟩) id
   have fin:∀(b:Act),b.tmps=a.tmps→∀(u:Value) (w:World),(∃c',w=c'.w∧c.le c'∧(j∈D∨(K c→K c'))∧fv r D K P ops Q fuel ((listed.setIfInBounds i true).setIfInBounds j true) ((b.put oi.dst v).put oj.dst u) c')→
     ∃c',w=c'.w∧c.le c'∧(j∈D∨(K c→K c'))∧fv r D K P ops Q (fuel+1) (listed.setIfInBounds j true) (b.put oj.dst u) c':=by
    rintro b hb u w ⟨c',rfl,hle,hk,h⟩;have hz':Z c':=by
     rcases hZ with h | h
     ·exact h c'
     ·rcases hD with h2 | h2
      ·exact h2 c'
      ·rcases hk with h3 | h3
       ·rcases h2 j h3 with h4 | h4
        ·rw [hjun] at h4; cases h4
        ·exact absurd h4 (notB listed j hW hr hj)
       ·subst h; exact h3 hz
    refine ⟨c',rfl,hle,hk,ih _ _ _ hfree' hW' hD' hz' (oJ hr (nB hji)) (keep b hb u c' hle) ?_⟩;rw [Array.setIfInBounds_comm _ _ hji,←Act.put_comm b v u ha2];exact h
   have he:oj.semAt r (a.put oi.dst v).eval=oj.semAt r a.eval:=ki oj (fun cs b=>hsel j oj cs b hoj) _ _ _ ha1;have hw:Region.wanted oj (yielded ops (a.put oi.dst v).tmps)=Region.wanted oj (yielded ops a.tmps):=wanted_put oj _ _ _ ha1;unfold Go.wpOpIn at h1⊢;simp only [hoj] at h1⊢;rw [hw] at h1;split
   ·rename_i hww
    rw [ad hww] at h1;refine ⟨fun _ _=>trivial,?_⟩;have h1:=h1.2;have hro:(fen r).round=r:=rfl;rw [hro,he] at h1;rw [hro];generalize (oj.semAt r a.eval).run P c.w=res at h1⊢
    cases res with
    | ok x w'=>
     cases x <;> simp only [Oper.uponIn] at h1⊢
     case value u=>exact fin a rfl _ _ h1
     case skip=>exact fin a rfl _ _ h1
     case defer d=>rw [Act.put_defers] at h1; exact fin { a with defers:=_ :: a.defers} rfl _ _ h1
     case enter f args=>
      refine ⟨h1.1,h1.2.mono fun x w'' hx=>?_⟩
      cases x with
      | returned u=>exact fin a rfl _ _ hx
      | panicked ch=>exact absurd hx (hP _ _ _)
      | outgrown=>obtain ⟨a1,w1,h3⟩:=hx; exact absurd h3 (hO _ _)
     case row row args=>exact ⟨h1.1,h1.2.mono fun u w'' hv=>fin a rfl _ _ hv⟩
     case round l f tmps assign body=>
      refine ⟨h1.1,h1.2.mono fun x w'' hx=>?_⟩
      cases x with
      | returned u=>exact fin a rfl _ _ hx
      | panicked ch=>exact absurd hx (hP _ _ _)
      | outgrown=>obtain ⟨a1,w1,h3⟩:=hx; exact absurd h3 (hO _ _)
    | halt x w'=>
     cases x <;> simp only [Oper.uponIn] at h1⊢
     case panic u=>exact absurd h1 (hP _ _ _)
   ·rename_i hww
    rw [af hww] at h1;exact ⟨fun _ _=>trivial,fin a rfl _ _ h1.2⟩
def AC (D:List Nat) (K:Cx→Prop) (P:Program) (l:List Oper) (n:Fr) (Q:Exit→(Nat→Value)→World→Prop) (fuel:Nat) (li:List Bool) (e:Nat→Value) (c:Cx):Prop:=
 fv n.ro D K P l.toArray (iU n Q) fuel li.toArray (act n e) c
theorem Cx.drew_le (c:Cx):c.but (fun _=>False) ⟨c.w.drew,c.A,c.t⟩:=⟨⟨rfl,rfl,aj _,fun _ _ _ h=>⟨rfl,h⟩,fun _ _ _=>rfl,fun _ _ _=>rfl,fun _ _ _ h=>h⟩,rfl,fun _ _ _=>⟨rfl,fun _=>Iff.rfl⟩⟩
theorem W.regionD (D:List Nat) (K:Cx→Prop) {id:Nat} {l:List Oper} {e:Nat→Value} {c:Cx} {G:Gm} {F:List En} (O:Own c G F) (hm:P.follows .mixedOrders=true)
  (h:∀c',c.le c'→Own c' G F→AC D K P l n Q l.length (List.replicate l.length false) e c'):W P n (.region id l.toArray true) Q e c.w:=
 wpIn_region_any hm (by
  have:=fv.sound _ _ _ _ (h _ (Cx.drew_le c).le (O.keep (Cx.drew_le c)));rw [show (List.replicate l.length false).toArray=Array.replicate l.toArray.size false by simp] at this;exact this)
variable {l:List Oper} {fuel:Nat} {li:List Bool} {e:Nat→Value} {c:Cx} {o:Oper}
theorem AC.take0 {Z:Cx→Prop} {B:List Nat} (hZ:(∀c,Z c)∨Z=K) {i:Nat} {v:Value} (hi:l.toArray[i]? = some o) (hs:Region.noSelect l.toArray=true) (hf:Region.free .any l.toArray li.toArray i=true)
  (hr:(Region.ready .any l.toArray li.toArray).contains i=true) (hB:Wt l.toArray li.toArray i B) (hD:(∀c,Z c)∨∀j∈D,li.toArray.getD j true=true∨j∈B) (hz:Z c) (hy:Yl Z P l.toArray o v (act n e) c)
  (h:AC D K P l n Q fuel (li.set i true) (upO e o.dst v) c):AC D K P l n Q (fuel+1) li e c:=by
 refine fv.first (fun ch a w h=>h.1) (fun a w h=>h.1) hi (Region.noSelect_spec hs) hZ fuel _ _ c (Region.free_spec hi hf) hB hD hz (by simpa using hr) hy ?_;rw [fN];simpa [AC] using h
def tk (l:List Oper) (n:Nat) (li:List Bool) (i:Nat):Bool:=
 Region.noSelect l.toArray && Region.free .any l.toArray li.toArray i && (Region.ready .any l.toArray li.toArray).contains i && bg n l
theorem AC.take (i:Nat) (v:Value) (hi:l.toArray[i]? = some o) (ht:tk l n li i=true) (hw:bU l.toArray n e o=true)
  (hy:∀c',c.le c'→(execOp (ev n e) o).run P c'.w= .ok (.value v) c'.w) (h:AC D K P l n Q fuel (li.set i true) (upO e o.dst v) c):AC D K P l n Q (fuel+1) li e c:=by
 simp only [tk,ac] at ht;exact AC.take0 (Z:=fun _=>True) (B:=[]) (.inl fun _=>trivial) hi ht.1.1.1 ht.1.1.2 ht.1.2 (fun j hj=>by simp at hj) (.inl fun _=>trivial) trivial (.inl ⟨by rw [dK _ _ _ _ (cy ht.2)]; exact hw,by rw [dv]; exact fun c' hc _=>hy c' hc⟩) h
theorem AC.takeb (i:Nat) {t b:Bool} (htb:t=b) (hi:l.toArray[i]? = some o) (ht:tk l n li i=true) (hw:bU l.toArray n e o=true)
  (hy:∀c',c.le c'→(execOp (ev n e) o).run P c'.w= .ok (.value (.bool t)) c'.w) (h:AC D K P l n Q fuel (li.set i true) (upO e o.dst (.bool b)) c):AC D K P l n Q (fuel+1) li e c:=by
 subst htb;exact AC.take i _ hi ht hw hy h
theorem AC.takeK (i:Nat) (v:Value) (hk:K c) (hi:l.toArray[i]? = some o) (ht:tk l n li i=true) (hB:okB l.toArray li i D=true) (hw:bU l.toArray n e o=true)
  (hy:∀c',c.le c'→K c'→(execOp (ev n e) o).run P c'.w= .ok (.value v) c'.w) (h:AC D K P l n Q fuel (li.set i true) (upO e o.dst v) c):AC D K P l n Q (fuel+1) li e c:=by
 simp only [tk,ac] at ht;obtain ⟨B,h1,h2⟩:=lm hB;exact AC.take0 (Z:=K) (B:=B) (.inr rfl) hi ht.1.1.1 ht.1.1.2 ht.1.2 h1 (.inr h2) hk (.inl ⟨by rw [dK _ _ _ _ (cy ht.2)]; exact hw,by rw [dv]; exact hy⟩) h
theorem AC.pass (i:Nat) (hi:l.toArray[i]? = some o) (ht:tk l n li i=true) (hw:bU l.toArray n e o=false)
  (h:AC D K P l n Q fuel (li.set i true) (upO e o.dst undef) c):AC D K P l n Q (fuel+1) li e c:=by
 simp only [tk,ac] at ht;exact AC.take0 (Z:=fun _=>True) (B:=[]) (.inl fun _=>trivial) hi ht.1.1.1 ht.1.1.2 ht.1.2 (fun j hj=>by simp at hj) (.inl fun _=>trivial) trivial (.inr ⟨by rw [dK _ _ _ _ (cy ht.2)]; exact hw,rfl⟩) h
def Go1 (D:List Nat) (K:Cx→Prop) (P:Program) (l:List Oper) (n:Fr) (Q:Exit→(Nat→Value)→World→Prop) (fuel:Nat) (li:List Bool) (e:Nat→Value) (c:Cx) (i:Nat):Prop:=
 wpOpIn (fen n.ro) 0 P l.toArray (iU n Q) i (fun a' w=>∃c',w=c'.w∧c.le c'∧(i∈D∨(K c→K c'))∧fv n.ro D K P l.toArray (iU n Q) fuel (li.toArray.setIfInBounds i true) a' c') (act n e) c.w
def mA (p:Nat→Prop):List Nat→Prop
 | []=>True
 | i :: l=>p i∧mA p l
theorem mA.mem {p:Nat→Prop}:∀{l:List Nat},mA p l→∀i∈l,p i
 | [],_,i,hi=>by cases hi
 | a :: l,h,i,hi=>by
  rcases List.mem_cons.1 hi with rfl | hi
  ·exact h.1
  ·exact h.2.mem i hi
theorem AC.many (is:List Nat) (hne:is≠ []) (hr:Region.ready .any l.toArray li.toArray=is) (h:mA (Go1 D K P l n Q fuel li e c) is):AC D K P l n Q (fuel+1) li e c:=
 ⟨fun h0=>(by rw [hr] at h0; exact absurd h0 hne),fun j hj=>h.mem j (hr▸ hj)⟩
theorem Go1.mk {i:Nat} (hi:l.toArray[i]? = some o) (hsl:bg n l=true) (hw:bU l.toArray n e o=true)
  (h:o.wpIn (fen n.ro) 0 P (act n e) c.w (fun a w=>∃e' c',a=act n e'∧w=c'.w∧c.le c'∧(i∈D∨(K c→K c'))∧AC D K P l n Q fuel (li.set i true) e' c') (iU n Q)):Go1 D K P l n Q fuel li e c i:=by
 unfold Go1 wpOpIn;simp only [hi];rw [ad (by rw [dK _ _ _ _ (cy hsl)]; exact hw)];refine Oper.wpIn_mono ?_ h;rintro a w ⟨e',c',rfl,rfl,hle,hk,h'⟩;exact ⟨c',rfl,hle,hk,by simpa [AC] using h'⟩
theorem Go1.val {i:Nat} {v:Value} {c':Cx} (hi:l.toArray[i]? = some o) (hsl:bg n l=true) (hw:bU l.toArray n e o=true)
  (hrun:(execOp (ev n e) o).run P c.w= .ok (.value v) c'.w) (hle:c.le c') (hk:D.contains i=true∨K c') (h:AC D K P l n Q fuel (li.set i true) (upO e o.dst v) c'):Go1 D K P l n Q fuel li e c i:=
 Go1.mk hi hsl hw (lj hrun ⟨_,c',rfl,rfl,hle,hk.imp (by simp) fun h _=>h,h⟩)
theorem Go1.do_ {i:Nat} {c':Cx} (hi:l.toArray[i]? = some o) (hsl:bg n l=true) (hw:bU l.toArray n e o=true)
  (hrun:(execOp (ev n e) o).run P c.w= .ok .skip c'.w) (hle:c.le c') (hk:D.contains i=true∨K c') (h:AC D K P l n Q fuel (li.set i true) (upO e o.dst undef) c'):Go1 D K P l n Q fuel li e c i:=
 Go1.mk hi hsl hw (mG hrun ⟨_,c',rfl,rfl,hle,hk.imp (by simp) fun h _=>h,h⟩)
theorem Go1.call {i:Nat} {f:FuncId} {args:Array Value} {X:Cx→Value→Prop} (hi:l.toArray[i]? = some o) (hsl:bg n l=true) (hw:bU l.toArray n e o=true)
  (hrun:(execOp (ev n e) o).run P c.w= .ok (.enter f args) c.w) (hc:Calls P f args c.w (ay c X))
  (h:∀v c',c.le c'→X c' v→(D.contains i=true∨K c')∧AC D K P l n Q fuel (li.set i true) (upO e o.dst v) c'):Go1 D K P l n Q fuel li e c i:=
 Go1.mk hi hsl hw (jR hrun (hc.mono fun x w=>by
  rintro ⟨v,c',rfl,rfl,hx,hX⟩;have:=h v c' hx hX;exact ⟨v,rfl,_,c',rfl,rfl,hx,this.1.imp (by simp) fun h _=>h,this.2⟩))
theorem AC.done (hr:Region.ready .any l.toArray li.toArray= []) (h:Q .normal e c.w):AC D K P l n Q fuel li e c:=by
 cases fuel with
 | zero=>exact ⟨hr,trivial,e,rfl,h⟩
 | succ k=>exact ⟨fun _=>⟨trivial,e,rfl,h⟩,by rw [hr]; simp⟩
theorem AC.gh {c':Cx} (hw:c'.w=c.w) (hA:c.le c') (hk:K c→K c') (h:AC D K P l n Q fuel li e c'):AC D K P l n Q fuel li e c:=by
 have key:∀(fuel:Nat) (listed:Array Bool) (a:Act),fv n.ro D K P l.toArray (iU n Q) fuel listed a c'→fv n.ro D K P l.toArray (iU n Q) fuel listed a c:=fun fuel listed a h=>by
  cases fuel with
  | zero=>exact ⟨h.1,by rw [←hw]; exact h.2⟩
  | succ fuel=>
   refine ⟨fun h0=>by rw [←hw]; exact h.1 h0,fun i hi=>?_⟩;have:=h.2 i hi;rw [hw] at this;exact wpOpIn_mono (fun a w ⟨c2,h1,h2,h3,h4⟩=>⟨c2,h1,hA.trans h2,h3.imp id fun h5 h6=>h5 (hk h6),h4⟩) this
 exact key _ _ _ h
theorem WL.callP {ops:Array Oper} {rest:List Oper} {f:FuncId} {args:Array Value} {X:Cx→Value→Prop} (hg:o.guard=none) (hr:(execOp (ev n e) o).run P c.w= .ok (.enter f args) c.w)
  (hc:Calls P f args c.w (ay c X)) (h:∀v c',c.le c'→X c' v→WL P ops n Q rest (upO e o.dst v) c'.w):WL P ops n Q (o :: rest) e c.w:=
 WL.call hg hr (hc.mono fun x w ⟨v,c',h1,h2,h3,h4⟩=>⟨v,h1,by subst h2; exact h v c' h3 h4⟩)
theorem WL.gh {ops:Array Oper} {rest:List Oper} {c':Cx} (hw:c'.w=c.w) (h:WL P ops n Q rest e c'.w):WL P ops n Q rest e c.w:=hw▸ h
end
end Go.Lt
namespace Go.Lt
section
variable {P:Program} {c c':Cx} {G:Gm} {F:List En} {α:Type} {R:Rp α}
theorem rv {s:Sem Value} {w w':World} {v:Value} (h:s.run P w= .ok v w'):(do pure (Next.value (←s)):Sem Next).run P w= .ok (.value v) w':=by
  simp [h,Result.andThen]
theorem rs {s:Sem Unit} {w w':World} (h:s.run P w= .ok () w'):(do s; pure Next.skip:Sem Next).run P w= .ok .skip w':=by
  simp [h,Result.andThen]
theorem rx {ρ:Operand→Value} {o:Oper} {s:Sem Value} {w w':World} {v:Value} (hx:execOp ρ o=(do pure (Next.value (←s)):Sem Next)) (h:s.run P w= .ok v w'):(execOp ρ o).run P w= .ok (.value v) w':=by
  rw [hx];exact rv h
theorem hC {v:Value} {xs:List α} {T E:TypeId} {k:IntKind} {i:Int} {x:α} (hT:P.underlying T=some (.slice E)) (hE:(P.info? E).map (·.size)=some R.size)
    (h:Sl R c v xs) (hi:idx xs i=some x) (w:World):(Instr.indexAt T v (.int k i)).run P w= .ok (.pointer (some ⟨sb v,so v+i.toNat * R.size,none⟩)) w:=by
  obtain ⟨a,cap,rfl,_,_,h4⟩:=h;unfold idx at hi;split at hi
  · rename_i h0
    have hlt:i.toNat < xs.length:=by
      rcases aN i.toNat xs.length with h | h
      · exact h
      · rw [gt h] at hi; cases hi
    obtain ⟨b,off,l,rfl,_,_⟩:=h4 _ _ hi;obtain ⟨ti,hti,hsz⟩:=Option.map_eq_some_iff.1 hE;have hlt':i < xs.length:=by omega
    simp [Instr.indexAt,asIntOf,aI hT,h0,hlt',sizeOf,typeInfo,hti,hsz,sb,so,dy]
  · cases hi
theorem lY {v:Value} {xs:List α} {T E ty:TypeId} (hT:P.underlying T=some (.slice E)) (h:Sl R c v xs) (w:World):
    (Builtin.len_ #[T] ty #[v]).run P w= .ok (.int .i64 (xs.length:Int)) w:=by
  obtain ⟨a,cap,rfl,_⟩:=h;simp [Builtin.len_,aI hT,goInt]
theorem ko {T:TypeId} {b o:Nat} {v:Value} {d:TypeDesc} (hT:P.underlying T=some d) (hd:(match d with | .struct _ | .array _ _=>false | _=>true)=true)
    (h:Im c b o v):(Instr.loadAt T (.pointer (some ⟨b,o,none⟩))).run P c.w= .ok v c.w:=by
  cases d <;> simp_all [Instr.loadAt,Instr.sureAddr,loadVar,isAgg,aI hT,load,Sem.run,h.cell]
theorem fE (b:Nat) {w:World}:∀(l:List Value) (o i:Nat) (acc:Array Value),(∀j u,l[j]? = some u→w.cell? ⟨b,o+i+j,none⟩=some u)→
    (loadCellsFrom ⟨b,o,none⟩ i l.length acc).run P w= .ok (acc++l.toArray) w:=by
  intro l
  induction l with
  | nil=>intro o i acc h; simp [loadCellsFrom]
  | cons v l ih=>
    intro o i acc h;have h0:=h 0 v rfl;simp only [Nat.add_zero] at h0;simp only [an,loadCellsFrom,dy,load,cB,Sem.run,h0,Result.andThen];rw [ih o (i+1) (acc.push v) (fun j u hu=>by have:=h (j+1) u hu; rwa [show o+i+(j+1)=o+(i+1)+j by omega] at this)];simp
theorem fS {w:World} {T:TypeId} {b o:Nat} {l:List Value} (hT:(P.underlying T).map (fun d=>match d with | .struct _ | .array _ _=>true | _=>false)=some true) (hs:(P.info? T).map (·.size)=some l.length)
    (h:∀j u,l[j]? = some u→w.cell? ⟨b,o+j,none⟩=some u):(loadVar T ⟨b,o,none⟩).run P w= .ok (.agg l.toArray) w:=by
  obtain ⟨ti,hti,hsz⟩:=Option.map_eq_some_iff.1 hs;obtain ⟨d,hd,hag⟩:=Option.map_eq_some_iff.1 hT;have h1:=fE (P:=P) (w:=w) b l o 0 #[] (fun j u hu=>h j u hu);have h2:(isAgg T).run P w= .ok true w:=by
    cases d <;> simp_all [isAgg,aI hd]
  rw [←hsz] at h1;simp [loadVar,h2,sizeOf,typeInfo,hti,loadCells,h1,Result.andThen]
theorem km {T:TypeId} {b o:Nat} {l:List Value} (hT:(P.underlying T).map (fun d=>match d with | .struct _ | .array _ _=>true | _=>false)=some true) (hs:(P.info? T).map (·.size)=some l.length)
    (h:∀j u,l[j]? = some u→Im c b (o+j) u):(Instr.loadAt T (.pointer (some ⟨b,o,none⟩))).run P c.w= .ok (.agg l.toArray) c.w:=by
  simp only [Instr.loadAt,Instr.sureAddr,cB,ny,Result.andThen];exact fS hT hs fun j u hu=>(h j u hu).cell
theorem En.on.cell {e:En} (h:e.on c) {b:Nat} (hb:blk e.v=some b) (j:Nat):c.w.cell? ⟨b,j,none⟩=e.vs[j]? :=by
  simp [World.cell?,(h.ce hb).1]
theorem fF {T:TypeId} {e:En} {b j:Nat} {v:Value} {d:TypeDesc} (hT:P.underlying T=some d) (hd:(match d with | .struct _ | .array _ _=>false | _=>true)=true)
    (h:e.on c) (hb:blk e.v=some b) (hj:e.vs[j]? = some v):(Instr.loadAt T (.pointer (some ⟨b,j,none⟩))).run P c.w= .ok v c.w:=by
  have hc:c.w.cell? ⟨b,j,none⟩=some v:=by rw [h.cell hb,hj]
  cases d <;> simp_all [Instr.loadAt,Instr.sureAddr,loadVar,isAgg,aI hT,load,Sem.run]
theorem iV {T:TypeId} {e:En} {b j:Nat} {l:List Value} (hT:(P.underlying T).map (fun d=>match d with | .struct _ | .array _ _=>true | _=>false)=some true) (hs:(P.info? T).map (·.size)=some l.length)
    (h:e.on c) (hb:blk e.v=some b) (hl:(e.vs.drop j).take l.length=l):(Instr.loadAt T (.pointer (some ⟨b,j,none⟩))).run P c.w= .ok (.agg l.toArray) c.w:=by
  simp only [Instr.loadAt,Instr.sureAddr,cB,ny,Result.andThen];refine fS hT hs fun i u hu=>?_;have:(e.vs.drop j)[i]? = some u:=by
    rw [←hl,bj] at hu;split at hu
    · exact hu
    · cases hu
  rw [eR] at this;rw [h.cell hb,this]
def eO:List Value→Prop
  | []=>True
  | u :: l=>u.oneCell'=true∧eO l
theorem eO.mem:∀{l:List Value},eO l→∀u∈l,u.oneCell'=true
  | [],_,u,hu=>by cases hu
  | a :: l,h,u,hu=>by
    rcases List.mem_cons.1 hu with rfl | hu
    · exact h.1
    · exact h.2.mem u hu
theorem frozen?_row {w w':World} {b:Nat} {l m:Array Value} {T:TypeId} (h:w.heap[b]? = some (.cells l T (0,0))) (h':w'.heap[b]? = some (.cells m T (0,0))) (ho:∀k,k≠b→w'.heap[k]? = w.heap[k]?) (a:Addr):w'.frozen? a=w.frozen? a:=by
  by_cases hk:a.block=b
  · simp [World.frozen?,hk,h,h']
  · simp [World.frozen?,ho _ hk]
theorem Cx.row {b:Nat} {l m:List Value} {T:TypeId} (h:c.w.heap[b]? = some (.cells l.toArray T (0,0))) (lim:Nat) (hA:∀o,c.A b o↔lim≤o) (hs:∀o,o < lim→m[o]? = l[o]?) (lim':Nat) (hl:lim≤lim'):
    ∃c':Cx,c'.w=c.w.setRow b m.toArray∧c.but (fun k=>k=b) c'∧c'.w.heap[b]? = some (.cells m.toArray T (0,0))∧∀o,c'.A b o↔lim'≤o:=by
  have hbk:=setRow_heap c.w b l.toArray m.toArray T (0,0) h;have hoth:∀k,k≠b→(c.w.setRow b m.toArray).heap[k]? = c.w.heap[k]? :=fun k hk=>setRow_other c.w b k _ hk;have hsz:(c.w.setRow b m.toArray).heap.size=c.w.heap.size:=by simp [World.setRow]
  refine ⟨⟨c.w.setRow b m.toArray,fun k o=>(k≠b∧c.A k o)∨(k=b∧lim'≤o),c.t⟩,rfl,⟨⟨rfl,rfl,by rw [hsz]; exact aj _,fun k o hk hnA=>?_,fun k hk hnA=>?_,fun a _ _=>frozen?_row h hbk hoth a,fun _ _ _ h=>h⟩,rfl,fun k hk hkb=>⟨hoth k hkb,fun o=>?_⟩⟩,hbk,fun o=>?_⟩
  · by_cases hkb:k=b
    · subst hkb
      have ho:o < lim:=by
        rcases aN o lim with h | h
        · exact h
        · exact absurd ((hA o).2 h) hnA
      refine ⟨?_,?_⟩
      · rw [cell_setRow_same c.w k o l.toArray _ T (0,0) h,fe c.w k o l.toArray T (0,0) h,aB,aB,hs o ho]
      · rintro (h | h)
        · exact h.1 rfl
        · omega
    · refine ⟨cU (w:=c.w) (a:=⟨k,o,none⟩) (hoth k hkb),?_⟩
      rintro (h | h)
      · exact hnA h.2
      · exact hkb h.1
  · by_cases hkb:k=b
    · subst hkb
      exact absurd ((hA lim).2 (aj _)) (hnA lim)
    · exact hoth k hkb
  · simp [hkb]
  · simp
theorem stE {T:TypeId} {e:En} {b o:Nat} {us:List Value} {v:Value} (h:e.on c) (hb:blk e.v=some b) (hlim:e.lim=0) (hv:v.cells.toList=us) (hs:(P.info? T).map (·.size)=some us.length) (h1:eO us)
    (hl:o+us.length≤e.vs.length):∃c',(Instr.storeAt T (.pointer (some ⟨b,o,none⟩)) v).run P c.w= .ok () c'.w∧c.but (fun k=>k=b) c'∧(⟨e.v,e.T,e.vs.take o++us++e.vs.drop (o+us.length),0⟩:En).on c':=by
  obtain ⟨ti,hti,hsz⟩:=Option.map_eq_some_iff.1 hs;have hh:=h.ce hb;have h2:=run_storeCells_at P b o e.T us 0 e.vs.toArray c.w hh.1 (by simpa using hl) h1.mem;have hz:v.cells.size=us.length:=by rw [←hv]; simp
  simp only [Nat.add_zero] at h2;obtain ⟨c',e1,e2,e3,e4⟩:=Cx.row (m:=e.vs.take o++us++e.vs.drop (o+us.length)) hh.1 e.lim hh.2 (fun o ho=>by omega) 0 (by omega);refine ⟨c',?_,e2,En.on.mk (b:=b) hb ⟨e3,e4⟩⟩
  · rw [e1]
    simp [Instr.storeAt,Instr.sureAddr,storeVar,sizeOf,typeInfo,hti,hsz,hz,hv,h2,Result.andThen]
variable {ρ:Operand→Value} {o:Oper}
theorem Own.st {T:TypeId} {e:En} {b j:Nat} {us nw:List Value} {v:Value} (k:Nat) (O:Own c G F) (hx:execOp ρ o=(do Instr.storeAt T (.pointer (some ⟨b,j,none⟩)) v; pure Next.skip:Sem Next)) (hk:F[k]? = some e) (hb:blk e.v=some b) (hlim:e.lim=0)
    (hv:v.cells.toList=us) (hs:(P.info? T).map (·.size)=some us.length) (h1:eO us) (hl:Nat.ble (j+us.length) e.vs.length=true) (hn:e.vs.take j++us++e.vs.drop (j+us.length)=nw):
    ∃c',(execOp ρ o).run P c.w= .ok .skip c'.w∧c.le c'∧Own c' G (F.set k ⟨e.v,e.T,nw,0⟩):=by
  subst hn;obtain ⟨c',h1,h2,h3⟩:=stE (O.on k hk) hb hlim hv hs h1 (aw hl);exact ⟨c',by rw [hx]; exact rs h1,h2.le,O.set k hk h2 (fun b' hb'=>by rw [hb']; exact (ig hb).1) h3 (fun b h=> .inl h)⟩
theorem Cx.new (c:Cx) (vs:List Value) (T:TypeId) (lim:Nat):∃c':Cx,c'.w=c.w.alloc (.cells vs.toArray T)∧c.but (fun _=>False) c'∧c'.w.heap[c.w.heap.size]? = some (.cells vs.toArray T (0,0))∧c.w.heap.size < c'.w.heap.size∧∀o,c'.A c.w.heap.size o↔lim≤o:=
  ⟨⟨c.w.alloc (.cells vs.toArray T),fun k p=>(k < c.w.heap.size∧c.A k p)∨(k=c.w.heap.size∧lim≤p),c.t⟩,rfl,
   ⟨⟨rfl,rfl,by simp,fun k p hk hA=>⟨cU (w:=c.w) (a:=⟨k,p,none⟩) (dk _ _ _ hk),by rintro (h | h); exact hA h.2; omega⟩,fun k hk _=>dk _ _ _ hk,fun a _ _=>RowKit.frozen?_alloc_cells _ _ _ _,fun _ _ _ h=>h⟩,rfl,
    fun k hk _=>⟨dk _ _ _ hk,fun p=>⟨by rintro (h | h); exact h.2; omega,fun h=> .inl ⟨hk,h⟩⟩⟩⟩,heap_alloc_new c.w _,by simp,fun o=>by simp⟩
theorem Own.al {T:TypeId} {vs:List Value} (O:Own c G F) (hr:(execOp ρ o).run P c.w= .ok (.value (.pointer (some ⟨c.w.heap.size,0,none⟩))) (c.w.alloc (.cells vs.toArray T))):
    ∃v c',(execOp ρ o).run P c.w= .ok (.value v) c'.w∧c.le c'∧∃b,v= .pointer (some ⟨b,0,none⟩)∧Own c' G (⟨.pointer (some ⟨b,0,none⟩),T,vs,0⟩ :: F):=by
  obtain ⟨c',h1,h2,h3,_,h4⟩:=Cx.new c vs T 0;refine ⟨_,c',by rw [h1]; exact hr,h2.le,_,rfl,O.cons h2 (fun _=>id) (fun b hb=>?_) (fun b hb=>?_)⟩
  · simp only [bk,aq] at hb; subst hb; exact ⟨h3,h4⟩
  · simp only [bk,aq] at hb; omega
theorem Own.bx {T:TypeId} {vs:List Value} (O:Own c G F) (hr:(execOp ρ o).run P c.w= .ok (.value (.pointer (some ⟨c.w.heap.size,0,none⟩))) (c.w.alloc (.cells vs.toArray T))):
    ∃v c',(execOp ρ o).run P c.w= .ok (.value v) c'.w∧c.le c'∧∃b,v= .pointer (some ⟨b,0,none⟩)∧Own c' G F∧∀j u,vs[j]? = some u→Im c' b (0+j) u:=by
  obtain ⟨c',h1,h2,h3,h5,h4⟩:=Cx.new c vs T vs.length;refine ⟨_,c',by rw [h1]; exact hr,h2.le,_,rfl,O.keep h2,fun j u hu=>⟨h5,fun hA=>?_,?_⟩⟩
  · have h6:=(h4 _).1 hA
    have:=(List.getElem?_eq_some_iff.1 hu).1;omega
  · rw [fe _ _ _ _ _ _ h3,aB,cC,hu]
def AR (R:Rp α) (c:Cx) (vs:List Value) (xs:List α):Prop:=∀i x,xs[i]? = some x→R.cells c ((vs.drop (i * R.size)).take R.size) x
def OA (R:Rp α) (c:Cx) (v:Value) (vs:List Value) (xs:List α):Prop:=
  0 < R.size∧((v= .slice none 0 0∧xs= [])∨∃g cap,v= .slice (some ⟨g,0,none⟩) xs.length cap∧xs.length≤cap∧cap≤maxLen∧cap * R.size≤vs.length)∧AR R c vs xs
def es (m:Bool) (R:Rp α) (v:Value) (E:TypeId) (vs:List Value) (xs:List α):En:=⟨v,E,vs,cond m 0 (xs.length * R.size)⟩
theorem AR.lw {vs:List Value} {xs:List α} (h:AR R c vs xs) (k:c.lw c'):AR R c' vs xs:=fun i x hx=>R.mono k (h i x hx)
theorem AR.mono {vs:List Value} {xs:List α} (h:AR R c vs xs) (k:c.le c'):AR R c' vs xs:=h.lw k.lw
theorem OA.lw {v:Value} {vs:List Value} {xs:List α} (h:OA R c v vs xs) (k:c.lw c'):OA R c' v vs xs:=⟨h.1,h.2.1,h.2.2.lw k⟩
theorem OA.mono {v:Value} {vs:List Value} {xs:List α} (h:OA R c v vs xs) (k:c.le c'):OA R c' v vs xs:=h.lw k.lw
theorem OA.nil (h0:0 < R.size):OA R c (.slice none 0 0) [] []:=⟨h0,.inl ⟨rfl,rfl⟩,fun i x h=>by simp at h⟩
theorem OA.one {v:Value} {vs:List Value} {xs:List α} (h:OA R c v vs xs):v.oneCell'=true:=by
  rcases h.2.1 with ⟨rfl,_⟩ | ⟨g,cap,rfl,_⟩ <;> rfl
theorem kY {v:Value} {vs:List Value} {xs:List α} {T E ty:TypeId} (hT:P.underlying T=some (.slice E)) (h:OA R c v vs xs) (w:World):
    (Builtin.len_ #[T] ty #[v]).run P w= .ok (.int .i64 (xs.length:Int)) w:=by
  rcases h.2.1 with ⟨rfl,rfl⟩ | ⟨g,cap,rfl,_⟩ <;> simp [Builtin.len_,aI hT,goInt]
theorem cN {β:Type} {a b:List β} {i s:Nat} (h:i+s≤a.length):((a++b).drop i).take s=(a.drop i).take s:=by
  rw [kc (by omega),kb (by rw [bT]; omega)]
theorem de {i k s:Nat} (h:i < k):i * s+s≤k * s:=by
  have:=gO s (show i+1≤k by omega);rw [cA,gM] at this;exact this
theorem AR.len {vs:List Value} {xs:List α} (h:AR R c vs xs) (hp:0 < R.size):xs.length * R.size≤vs.length:=by
  rcases eP xs.length with h0 | h0
  · rw [h0,jm]; exact aG _
  · have hx:xs[xs.length - 1]? = some xs[xs.length - 1]:=ai (by omega)
    have:=R.len (h _ _ hx);rw [ao,bT] at this;have e:xs.length * R.size=(xs.length - 1) * R.size+R.size:=by
      conv=>lhs; rw [show xs.length=xs.length - 1+1 by omega,cA,gM]
    omega
theorem OA.sl {v:Value} {E:TypeId} {vs:List Value} {xs:List α} (h:OA R c v vs xs) (hon:(es false R v E vs xs).on c):Sl R c v xs:=by
  obtain ⟨hp,h1,h2⟩:=h;rcases h1 with ⟨rfl,rfl⟩ | ⟨g,cap,rfl,hc,hm,hcs⟩
  · exact Sl.nl R c
  · obtain ⟨h3,h4⟩:=hon.ce (b:=g) rfl
    refine ⟨_,cap,rfl,hc,hm,fun i x hx=>⟨g,0,_,rfl,h2 i x hx,fun j u hu=>?_⟩⟩;have hj:j < R.size∧vs[i * R.size+j]? = some u:=by
      rw [bj] at hu;split at hu
      · rename_i hj
        exact ⟨hj,by rwa [eR] at hu⟩
      · cases hu
    have hi:=de (s:=R.size) (List.getElem?_eq_some_iff.1 hx).1;refine ⟨(Array.getElem?_eq_some_iff.1 h3).1,fun hA=>?_,?_⟩
    · have:=(h4 _).1 hA
      simp only [es,pb] at this;omega
    · rw [fe _ _ _ _ _ _ h3,aB,cC]
      exact hj.2
theorem Own.frz {v:Value} {E:TypeId} {vs:List Value} {xs:List α} (k:Nat) (O:Own c G F) (hk:F[k]? = some (es true R v E vs xs)) (h:OA R c v vs xs):
    ∃c',c'.w=c.w∧c.le c'∧Own c' G (F.set k (es false R v E vs xs))∧Sl R c' v xs:=by
  have hon:=O.on k hk
  let c':Cx:=⟨c.w,fun b o=>c.A b o∧¬(bk v=some b∧o < xs.length * R.size),c.t⟩
  have hle:c.le c':=⟨rfl,rfl,aj _,fun _ _ _ h=>⟨rfl,fun h2=>h h2.1⟩,fun _ _ _=>rfl,fun _ _ _=>rfl,fun _ _ _ h=>h⟩;have hb:c.but (fun b=>bk v=some b) c':=⟨hle,rfl,fun b hb hd=>⟨rfl,fun o=>⟨fun h=>h.1,fun h=>⟨h,fun h2=>hd h2.1⟩⟩⟩⟩;have hon':(es false R v E vs xs).on c':=fun b hb=>by
    obtain ⟨h1,h2⟩:=hon b hb;refine ⟨h1,fun o=>?_⟩;have hb':bk v=some b:=hb;simp only [c',hb',nJ,es,pb];rw [h2 o];simp [es]
  exact ⟨c',rfl,hle,O.set k hk hb (fun b h=>h) hon' (fun b h=> .inl h),(h.mono hle).sl hon'⟩
theorem Sl.flat {u:Value} {ys:List α} (h:Sl R c u ys):∃nw:List Value,nw.length=ys.length * R.size∧(∀j w,nw[j]? = some w→Im c (sb u) (so u+j) w)∧(∀w∈nw,w.oneCell'=true)∧
    (∀i x,ys[i]? = some x→R.cells c ((nw.drop (i * R.size)).take R.size) x):=by
  suffices ∀k,k≤ys.length→∃nw:List Value,nw.length=k * R.size∧(∀j w,nw[j]? = some w→Im c (sb u) (so u+j) w)∧(∀w∈nw,w.oneCell'=true)∧
      (∀i x,i < k→ys[i]? = some x→R.cells c ((nw.drop (i * R.size)).take R.size) x) by
    obtain ⟨nw,h1,h2,h3,h4⟩:=this ys.length (aj _);exact ⟨nw,h1,h2,h3,fun i x hx=>h4 i x (List.getElem?_eq_some_iff.1 hx).1 hx⟩
  intro k
  induction k with
  | zero=>exact fun _=>⟨[],by simp,by simp,by simp,fun i x hi=>by omega⟩
  | succ k ih=>
    intro hk;obtain ⟨nw,h1,h2,h3,h4⟩:=ih (by omega);have hx:ys[k]? = some ys[k]:=ai (by omega);obtain ⟨l,hl,hc⟩:=h.at hx;have hll:=R.len hl;refine ⟨nw++l,by rw [am,h1,hll,cA,gM],fun j w hw=>?_,fun w hw=>?_,fun i x hi hxi=>?_⟩
    · rcases aN j nw.length with hj | hj
      · rw [az hj] at hw
        exact h2 j w hw
      · rw [aE hj] at hw
        have:=hc _ _ hw;rw [h1] at this
        rwa [show so u+k * R.size+(j - k * R.size)=so u+j by omega] at this
    · rcases List.mem_append.1 hw with hw | hw
      · exact h3 w hw
      · exact R.one hl w hw
    · rcases aN i k with hik | hik
      · rw [cN (by rw [h1]; exact de hik)]
        exact h4 i x hik hxi
      · obtain rfl:i=k:=by omega
        rw [hx] at hxi;cases hxi;rw [←h1,eU,bR (by omega)];exact hl
theorem gn (z:Array Value) (n:Nat):(Builtin.zeroCells z n).size=n * z.size:=by simp [Builtin.zeroCells]
theorem gj {E t ty:TypeId} {v:Value} {vs:List Value} {xs ys zs:List α} {z:Value} {by_:Nat} {m:Bool} {ua:Option Addr} {ucap:Nat} {nw:List Value} (k:Nat) (O:Own c G F) (hk:F[k]? = some (es m R v E vs xs)) (h:OA R c v vs xs)
    (n1:nw.length=ys.length * R.size) (n2:ys≠ []→∃ub uo,ua=some ⟨ub,uo,none⟩∧∀j w,nw[j]? = some w→c.w.cell? ⟨ub,uo+j,none⟩=some w) (n3:∀w∈nw,w.oneCell'=true) (n4:∀i x,ys[i]? = some x→R.cells c ((nw.drop (i * R.size)).take R.size) x) (happ:app xs ys=some zs)
    (hT:P.underlying t=some (.slice E)) (hi:(P.info? E).map (fun i=>(i.zero,i.size,i.bytes))=some (some z,R.size,by_)) (hz:z.cells.size=R.size) (hbytes:(xs.length+ys.length) * by_≤140737488355328):
    ∃v' c',(Builtin.append_ #[t,t] ty #[v,.slice ua ys.length ucap]).run P c.w= .ok v' c'.w∧c.le c'∧∃vs',Own c' G (F.set k (es m R v' E vs' zs))∧OA R c' v' vs' zs:=by
  have hfar:xs.length+ys.length≤far∧xs++ys=zs:=by
    unfold app at happ;split at happ
    · exact ⟨by assumption,by simpa using happ⟩
    · cases happ
  obtain ⟨hfar,rfl⟩:=hfar;unfold far at hfar;obtain ⟨ti,hti,hzz⟩:=Option.map_eq_some_iff.1 hi;simp only [ck] at hzz;obtain ⟨hz1,hz2,hz3⟩:=hzz;have hon:=O.on k hk;have hklt:=(List.getElem?_eq_some_iff.1 hk).1;have hh:=h;obtain ⟨hp,h1,h2⟩:=h;by_cases hys:ys= []
  · subst hys
    refine ⟨v,c,?_,Cx.le.refl c,vs,?_,by rw [kI]; exact hh⟩
    · rcases h1 with ⟨rfl,rfl⟩ | ⟨g,cap,rfl,hcap,_⟩
      · cases ua <;> simp [Builtin.append_,aI hT,sizeOf,typeInfo,hti,Builtin.lenOf,Builtin.firstCells,loadCells,loadCellsFrom,storeCells]
      · cases ua <;> simp [Builtin.append_,aI hT,sizeOf,typeInfo,hti,Builtin.lenOf,Builtin.firstCells,loadCells,loadCellsFrom,storeCells,hcap]
    · rw [kI]
      have:F.set k (es m R v E vs xs)=F:=by
        apply py;intro j;by_cases hj:k=j
        · subst hj; rw [gd hklt,hk]
        · rw [gP hj]
      rw [this]; exact O
  · have hpos:0 < ys.length:=by
      rcases eP ys.length with h | h
      · exact absurd (dP h) hys
      · exact h
    obtain ⟨ub,uo,hua,n5⟩:=n2 hys;subst hua;have hcells:∀j w,nw[j]? = some w→c.w.cell? ((⟨ub,uo,none⟩:Addr).add j)=some w:=fun j w hw=>by
      rw [dy];exact n5 j w hw
    have hN:(xs++ys).length=xs.length+ys.length:=am;have hxl:=h2.len hp;have helem:∀(c':Cx) (tail:List Value),c.le c'→AR R c' (vs.take (xs.length * R.size)++nw++tail) (xs++ys):=fun c' tail hcc i x hx=>by
      have hlt:(vs.take (xs.length * R.size)).length=xs.length * R.size:=by rw [ao]; omega
      rcases aN i xs.length with hi' | hi'
      · have hm:=de (s:=R.size) hi'
        rw [bM,cN (by rw [hlt]; exact hm)];rw [az hi'] at hx;have:=h2 i x hx;rw [dx,eQ,show min R.size (xs.length * R.size - i * R.size)=R.size by omega];exact R.mono hcc this
      · rw [aE hi'] at hx
        have h4:=n4 _ _ hx;have hiy:=de (s:=R.size) (List.getElem?_eq_some_iff.1 hx).1;have e:i * R.size=xs.length * R.size+(i - xs.length) * R.size:=by rw [←cA]; congr 1; omega
        have e2:(vs.take (xs.length * R.size)++(nw++tail)).drop (xs.length * R.size)=nw++tail:=by
          conv=>lhs; arg 1; rw [←hlt]
          exact eU
        rw [bM,e,←cv,e2,cN (by rw [n1]; omega)];exact R.mono hcc h4
    have hbytes:(xs.length+ys.length) * ti.bytes≤140737488355328:=by
      rw [hz3];exact hbytes
    have fresh:∀old,old < xs.length+ys.length→
        ∃v' c',Result.ok (α:=Value) (.slice (some ⟨c.w.heap.size,0,none⟩) (xs.length+ys.length) (grownCap c.w (xs.length+ys.length) old E)) (c.w.drew.alloc (.cells ((vs.take (xs.length * R.size)).toArray++nw.toArray++Builtin.zeroCells z.cells (grownCap c.w (xs.length+ys.length) old E - (xs.length+ys.length))) E))= .ok v' c'.w∧c.le c'∧
        ∃vs',Own c' G (F.set k (es m R v' E vs' (xs++ys)))∧OA R c' v' vs' (xs++ys):=by
      intro old ho;have hge:=grownCap_ge c.w (xs.length+ys.length) old E;have hcm:grownCap c.w (xs.length+ys.length) old E≤maxLen:=grownCap_le_maxLen c.w _ old E (by unfold maxLen; omega);have hd:=Cx.drew_le c;obtain ⟨c',e1,e2,e3,e4,e5⟩:=Cx.new ⟨c.w.drew,c.A,c.t⟩ ((vs.take (xs.length * R.size))++nw++(Builtin.zeroCells z.cells (grownCap c.w (xs.length+ys.length) old E - (xs.length+ys.length))).toList) E (cond m 0 ((xs++ys).length * R.size));have ea:((vs.take (xs.length * R.size))++nw++(Builtin.zeroCells z.cells (grownCap c.w (xs.length+ys.length) old E - (xs.length+ys.length))).toList).toArray=(vs.take (xs.length * R.size)).toArray++nw.toArray++Builtin.zeroCells z.cells (grownCap c.w (xs.length+ys.length) old E - (xs.length+ys.length)):=by
        apply Array.ext'; simp
      refine ⟨.slice (some ⟨c.w.heap.size,0,none⟩) (xs.length+ys.length) (grownCap c.w (xs.length+ys.length) old E),c',by rw [e1,ea],hd.le.trans e2.le,(vs.take (xs.length * R.size))++nw++(Builtin.zeroCells z.cells (grownCap c.w (xs.length+ys.length) old E - (xs.length+ys.length))).toList,Own.set (O.keep hd) k hk e2 (fun b (h:False)=>h.elim) (fun b hb=>?_) (fun b hb=>?_),hp,.inr ⟨c.w.heap.size,_,by rw [hN],by rw [hN]; exact hge,hcm,?_⟩,?_⟩
      · simp only [es,bk,aq] at hb; subst hb; exact ⟨e3,e5⟩
      · simp only [es,bk,aq] at hb; subst hb; exact .inr (aj _)
      · simp only [am,Array.length_toList,gn,hz,n1,ao]
        have:grownCap c.w (xs.length+ys.length) old E * R.size=xs.length * R.size+ys.length * R.size+(grownCap c.w (xs.length+ys.length) old E - (xs.length+ys.length)) * R.size:=by
          rw [←cA,←cA]; congr 1; omega
        rw [this,gk hxl];exact aj _
      · exact helem c' _ (hd.le.trans e2.le)
    rcases h1 with ⟨rfl,rfl⟩ | ⟨g,cap,rfl,hnc,hcm,hcs⟩
    · have hr:=run_append_nil (P:=P) c.w t ty E ti z hT hti hz1 ⟨ub,uo,none⟩ ys.length ucap nw (by rw [n1,hz2]) hcells hpos (by simp at hfar; omega) (by have:=hbytes; simp at this; omega)
      have:=fresh 0 (by simpa using hpos);simp only [aC,cC,jm,List.take_zero,Array.empty_append,List.nil_append] at this hr⊢;rw [hr];simpa using this
    · obtain ⟨hg,hA⟩:=hon.ce (b:=g) rfl
      by_cases hroom:xs.length+ys.length≤cap
      · have hfit:xs.length * R.size+nw.length≤vs.length:=by
          rw [n1,←cA];exact bp (gO _ hroom) hcs
        have hr:=run_append_room (P:=P) c.w t ty E ti hT hti g xs.length cap vs.toArray hg ⟨ub,uo,none⟩ ys.length ucap nw (by rw [n1,hz2]) hcells n3 hroom (by rw [hz2]; simpa using hfit);rw [hz2] at hr;simp only at hr;obtain ⟨c',e1,e2,e3,e4⟩:=Cx.row (m:=vs.take (xs.length * R.size)++nw++vs.drop (xs.length * R.size+nw.length)) hg _ hA (fun o ho=>by
          have ho:o < xs.length * R.size:=by
            cases m
            · exact ho
            · exact absurd ho (Nat.not_lt_zero _)
          rw [bM,az (by rw [ao]; omega),bj,ad ho];rfl) (cond m 0 ((xs++ys).length * R.size)) (by
            cases m
            · simp only [es,pb]; exact gO _ (by rw [hN]; omega)
            · exact aj _)
        refine ⟨.slice (some ⟨g,0,none⟩) (xs.length+ys.length) cap,c',by rw [hr,e1],e2.le,vs.take (xs.length * R.size)++nw++vs.drop (xs.length * R.size+nw.length),Own.set O k hk e2 (fun b h=>by subst h; rfl) (fun b hb=>?_) (fun b hb=> .inl hb),hp,.inr ⟨g,cap,by rw [hN],by rw [hN]; exact hroom,hcm,?_⟩,helem c' _ e2.le⟩
        · simp only [es,bk,aq] at hb; subst hb; exact ⟨e3,e4⟩
        · simp only [am,bT,ao]
          omega
      · have holds:∀j w,(vs.take (xs.length * R.size))[j]? = some w→c.w.cell? ((⟨g,0,none⟩:Addr).add j)=some w:=fun j w hw=>by
          rw [dy,cC,fe _ _ _ _ _ _ hg,aB];rw [bj] at hw;split at hw
          · exact hw
          · cases hw
        have hr:=run_append_grow (P:=P) c.w t ty E ti z hT hti hz1 ⟨g,0,none⟩ xs.length cap (vs.take (xs.length * R.size)) (by rw [ao,hz2]; omega) holds ⟨ub,uo,none⟩ ys.length ucap nw (by rw [n1,hz2]) hcells (by omega) (by omega) (growslice_fits (by omega) hbytes);rw [hr];exact fresh cap (by omega)
theorem jJ {E t ty:TypeId} {v:Value} {vs:List Value} {xs ys zs:List α} {z:Value} {by_:Nat} {m:Bool} {ua:Option Addr} {ucap:Nat} {nw:List Value} (k:Nat) (O:Own c G F) (hk:F[k]? = some (es m R v E vs xs)) (h:OA R c v vs xs)
    (n1:nw.length=ys.length * R.size) (n2:ys≠ []→∃ub uo,ua=some ⟨ub,uo,none⟩∧∀j w,nw[j]? = some w→c.w.cell? ⟨ub,uo+j,none⟩=some w) (n3:∀w∈nw,w.oneCell'=true) (n4:∀i x,ys[i]? = some x→R.cells c ((nw.drop (i * R.size)).take R.size) x) (happ:app xs ys=some zs)
    (hT:P.underlying t=some (.slice E)) (hi:(P.info? E).map (fun i=>(i.zero,i.size,i.bytes))=some (some z,R.size,by_)) (hz:z.cells.size=R.size) (hby:Nat.ble by_ 128=true):
    ∃v' c',(Builtin.append_ #[t,t] ty #[v,.slice ua ys.length ucap]).run P c.w= .ok v' c'.w∧c.le c'∧∃vs',Own c' G (F.set k (es m R v' E vs' zs))∧OA R c' v' vs' zs:=by
  refine gj k O hk h n1 n2 n3 n4 happ hT hi hz ?_;have hby:=aw hby;have hfar:xs.length+ys.length≤far:=by
    unfold app at happ;split at happ
    · assumption
    · cases happ
  exact bp (Nat.mul_le_mul hfar hby) (by decide)
theorem kF {E t ty:TypeId} {v u:Value} {vs:List Value} {xs ys zs:List α} {z:Value} {by_:Nat} {m:Bool} (k:Nat) (O:Own c G F) (hk:F[k]? = some (es m R v E vs xs)) (h:OA R c v vs xs) (hS:Sl R c u ys) (happ:app xs ys=some zs)
    (hT:P.underlying t=some (.slice E)) (hi:(P.info? E).map (fun i=>(i.zero,i.size,i.bytes))=some (some z,R.size,by_)) (hz:z.cells.size=R.size) (hby:Nat.ble by_ 128=true):
    ∃v' c',(Builtin.append_ #[t,t] ty #[v,u]).run P c.w= .ok v' c'.w∧c.le c'∧∃vs',Own c' G (F.set k (es m R v' E vs' zs))∧OA R c' v' vs' zs:=by
  obtain ⟨nw,n1,n2,n3,n4⟩:=hS.flat;obtain ⟨ua,ucap,rfl,hu1,hu2,hu3⟩:=hS;refine jJ k O hk h n1 (fun hys=>?_) n3 n4 happ hT hi hz hby;have hpos:0 < ys.length:=by
    rcases eP ys.length with h | h
    · exact absurd (dP h) hys
    · exact h
  obtain ⟨ub,uo,_,hua,_⟩:=hu3 0 ys[0] (ai hpos);subst hua;exact ⟨ub,uo,rfl,fun j w hw=>(n2 j w hw).cell⟩
end
end Go.Lt
namespace Go.Lt
section
variable {P:Program} {c c':Cx} {G:Gm} {F:List En} {α:Type} {R:Rp α} {ρ:Operand→Value} {o:Oper}
variable {n:Fr} {ops:Array Oper} {Q:Exit→(Nat→Value)→World→Prop} {rest:List Oper} {e:Nat→Value} {D:List Nat} {K:Cx→Prop} {l:List Oper} {fuel:Nat} {li:List Bool}
theorem WL.mem {X:Value→Cx→Prop} (hg:o.guard=none) (hr:∃v c',(execOp (ev n e) o).run P c.w= .ok (.value v) c'.w∧c.le c'∧X v c')
  (h:∀v c',c.le c'→X v c'→WL P ops n Q rest (upO e o.dst v) c'.w):WL P ops n Q (o :: rest) e c.w:=by
 obtain ⟨v,c',h1,h2,h3⟩:=hr;exact WL.val hg h1 (h v c' h2 h3)
theorem WL.memD {X:Cx→Prop} (hg:o.guard=none) (hr:∃c',(execOp (ev n e) o).run P c.w= .ok .skip c'.w∧c.le c'∧X c')
  (h:∀c',c.le c'→X c'→WL P ops n Q rest (upO e o.dst undef) c'.w):WL P ops n Q (o :: rest) e c.w:=by
 obtain ⟨c',h1,h2,h3⟩:=hr;exact WL.do_ hg h1 (h c' h2 h3)
theorem Go1.mem (i:Nat) {X:Value→Cx→Prop} (hi:l.toArray[i]? = some o) (hsl:bg n l=true) (hw:bU l.toArray n e o=true) (hr:∃v c',(execOp (ev n e) o).run P c.w= .ok (.value v) c'.w∧c.le c'∧X v c')
  (h:∀v c',c.le c'→X v c'→(D.contains i=true∨K c')∧AC D K P l n Q fuel (li.set i true) (upO e o.dst v) c'):Go1 D K P l n Q fuel li e c i:=by
 obtain ⟨v,c',h1,h2,h3⟩:=hr;have:=h v c' h2 h3;exact Go1.val hi hsl hw h1 h2 this.1 this.2
theorem Go1.memD (i:Nat) {X:Cx→Prop} (hi:l.toArray[i]? = some o) (hsl:bg n l=true) (hw:bU l.toArray n e o=true) (hr:∃c',(execOp (ev n e) o).run P c.w= .ok .skip c'.w∧c.le c'∧X c')
  (h:∀c',c.le c'→X c'→(D.contains i=true∨K c')∧AC D K P l n Q fuel (li.set i true) (upO e o.dst undef) c'):Go1 D K P l n Q fuel li e c i:=by
 obtain ⟨c',h1,h2,h3⟩:=hr;have:=h c' h2 h3;exact Go1.do_ hi hsl hw h1 h2 this.1 this.2
theorem Go1.callP (i:Nat) {f:FuncId} {args:Array Value} {X:Cx→Value→Prop} (hi:l.toArray[i]? = some o) (hsl:bg n l=true) (hw:bU l.toArray n e o=true)
  (hrun:(execOp (ev n e) o).run P c.w= .ok (.enter f args) c.w) (hc:Calls P f args c.w (ay c X))
  (h:∀v c',c.le c'→X c' v→(D.contains i=true∨K c')∧AC D K P l n Q fuel (li.set i true) (upO e o.dst v) c'):Go1 D K P l n Q fuel li e c i:=Go1.call hi hsl hw hrun hc h
theorem AC.one (i:Nat) (hr:Region.ready .any l.toArray li.toArray= [i]) (h:Go1 D K P l n Q fuel li e c i):AC D K P l n Q (fuel+1) li e c:=AC.many [i] (by simp) hr ⟨h,trivial⟩
theorem Sl.form {v:Value} {xs:List α} (h:Sl R c v xs):∃a n k,v= .slice a n k:=by
 obtain ⟨a,cap,h,_⟩:=h; exact ⟨_,_,_,h⟩
theorem OA.form {v:Value} {vs:List Value} {xs:List α} (h:OA R c v vs xs):∃a n k,v= .slice a n k:=by
 rcases h.2.1 with ⟨h,_⟩ | ⟨g,cap,h,_⟩ <;> exact ⟨_,_,_,h⟩
theorem va (v:Value) {w:World} (h:WL P ops n Q rest (upO e o.dst v) w) (hg:o.guard=none:=by exact rfl) (hr:(execOp (ev n e) o).run P w= .ok (.value v) w:=by kernel_rfl):WL P ops n Q (o :: rest) e w:=WL.val0 hg hr h
theorem vb {t b:Bool} {w:World} (ht:t=b) (h:WL P ops n Q rest (upO e o.dst (.bool b)) w) (hg:o.guard=none:=by exact rfl) (hr:(execOp (ev n e) o).run P w= .ok (.value (.bool t)) w:=by kernel_rfl):WL P ops n Q (o :: rest) e w:=WL.valb0 ht hg hr h
theorem ps {l:List Oper} {w:World} (h:WL P l.toArray n Q rest (upO e o.dst undef) w) (hs:bg n l=true:=by kernel_rfl) (hw:bU l.toArray n e o=false:=by kernel_rfl):WL P l.toArray n Q (o :: rest) e w:=WL.pass hs hw h
theorem wn {l:List Oper} {w:World} (h:WL P l.toArray n Q ({ o with guard:=none} :: rest) e w) (hs:bg n l=true:=by kernel_rfl) (hw:bU l.toArray n e o=true:=by kernel_rfl):WL P l.toArray n Q (o :: rest) e w:=WL.want hs hw h
theorem ta (i:Nat) (v:Value) (h:AC D K P l n Q fuel (li.set i true) (upO e o.dst v) c) (hi:l.toArray[i]? = some o:=by exact rfl) (ht:tk l n li i=true:=by kernel_rfl) (hw:bU l.toArray n e o=true:=by kernel_rfl)
  (hy:∀w,(execOp (ev n e) o).run P w= .ok (.value v) w:=by intro w; kernel_rfl):AC D K P l n Q (fuel+1) li e c:=AC.take i v hi ht hw (fun c' _=>hy c'.w) h
theorem sr {b:Code} {id:Nat} {l:List Oper} {w:World} (h:WL P l.toArray n (ge (W P n b Q) Q) l e w):W P n ((Code.region id l.toArray false).seq b) Q e w:=W.seq (W.region h)
theorem wln {K:(Nat→Value)→World→Prop} {Q:Exit→(Nat→Value)→World→Prop} {w:World} (h:K e w):WL P ops n (ge K Q) [] e w:=WL.nil (nrm h)
theorem vv {o':Oper} (v:Value) {w:World} (h:WL P ops n Q rest (upO (upO e o.dst v) o'.dst v) w) (hg:o.guard=none:=by exact rfl) (hr:(execOp (ev n e) o).run P w= .ok (.value v) w:=by kernel_rfl) (hg':o'.guard=none:=by exact rfl) (hr':(execOp (ev n (upO e o.dst v)) o').run P w= .ok (.value v) w:=by kernel_rfl):WL P ops n Q (o :: o' :: rest) e w:=va v (va v h hg' hr') hg hr
theorem wa {l:List Oper} (v:Value) {w:World} (h:WL P l.toArray n Q rest (upO e o.dst v) w) (hs:bg n l=true:=by kernel_rfl) (hw:bU l.toArray n e o=true:=by kernel_rfl) (hr:(execOp (ev n e) { o with guard:=none}).run P w= .ok (.value v) w:=by kernel_rfl):WL P l.toArray n Q (o :: rest) e w:=wn (va v h rfl hr) hs hw
theorem pz {l:List Oper} {o':Oper} {w:World} (h:WL P l.toArray n Q rest (upO (upO e o.dst undef) o'.dst undef) w) (hs:bg n l=true:=by kernel_rfl) (hw:bU l.toArray n e o=false:=by kernel_rfl) (hw':bU l.toArray n (upO e o.dst undef) o'=false:=by kernel_rfl):WL P l.toArray n Q (o :: o' :: rest) e w:=ps (ps h hs hw') hs hw
theorem OA.blk {v:Value} {vs:List Value} {xs:List α} {i:Int} {x:α} (h:OA R c v vs xs) (hi:idx xs i=some x):Go.Lt.blk v=some (sb v):=by
 rcases h.2.1 with ⟨_,rfl⟩ | ⟨g,cap,rfl,_⟩
 ·have:=lz hi; simp at this; omega
 ·rfl
theorem jz {v:Value} {vs:List Value} {xs:List α} {T E:TypeId} {k:IntKind} {i:Int} {x:α} (hT:P.underlying T=some (.slice E)) (hE:(P.info? E).map (·.size)=some R.size)
  (h:OA R c v vs xs) (hi:idx xs i=some x) (w:World):(Instr.indexAt T v (.int k i)).run P w= .ok (.pointer (some ⟨sb v,i.toNat * R.size,none⟩)) w:=by
 obtain ⟨h1,h2⟩:=lz hi;rcases h.2.1 with ⟨_,rfl⟩ | ⟨g,cap,rfl,_⟩
 ·simp at h2; omega
 ·obtain ⟨ti,hti,hsz⟩:=Option.map_eq_some_iff.1 hE;simp [Instr.indexAt,asIntOf,aI hT,h1,h2,sizeOf,typeInfo,hti,hsz,sb,dy]
theorem OA.at {v:Value} {vs:List Value} {xs:List α} {i:Int} {x:α} (h:OA R c v vs xs) (hi:idx xs i=some x):∃l,R.cells c l x∧(vs.drop (i.toNat * R.size)).take R.size=l:=⟨_,h.2.2 _ _ (aH hi),rfl⟩
theorem at1 {vs l:List Value} {p n j:Nat} {u:Value} (h:(vs.drop p).take n=l) (hj:l[j]? = some u):vs[p+j]? = some u:=by
 subst h;rw [bj] at hj;split at hj
 ·rwa [eR] at hj
 ·cases hj
theorem at2 {vs l l':List Value} {p n j:Nat} (h:(vs.drop p).take n=l) (hj:(l.drop j).take l'.length=l'):(vs.drop (p+j)).take l'.length=l':=by
 subst h
 conv=>rhs; rw [←hj]
 rw [dx,cv,eQ];have h1:=fI List.length hj;rw [dx,cv,eQ,ao] at h1
 congr 1
 omega
theorem Own.stO {T E:TypeId} {v:Value} {vs:List Value} {xs xs':List α} {i:Int} {x x':α} {j:Nat} {us l l':List Value} {u:Value} (k:Nat) (O:Own c G F) (hx:execOp ρ o=(do Instr.storeAt T (.pointer (some ⟨sb v,i.toNat * R.size+j,none⟩)) u; pure Next.skip:Sem Next))
  (hk:F[k]? = some (es true R v E vs xs)) (h:OA R c v vs xs) (hset:gV xs i x'=some xs') (hm:(vs.drop (i.toNat * R.size)).take R.size=l) (hv:u.cells.toList=us) (hs:(P.info? T).map (·.size)=some us.length) (h1:eO us)
  (hl:Nat.ble (j+us.length) R.size=true) (hn:l.take j++us++l.drop (j+us.length)=l') (hx':R.cells c l' x'):
  ∃c',(execOp ρ o).run P c.w= .ok .skip c'.w∧c.le c'∧∃vs',Own c' G (F.set k (es true R v E vs' xs'))∧OA R c' v vs' xs':=by
 have hl:=aw hl;unfold gV at hset;split at hset
 ·rename_i hi
  cases hset;have hbk:Go.Lt.blk v=some (sb v):=by
   rcases h.2.1 with ⟨_,rfl⟩ | ⟨g,cap,rfl,_⟩
   ·exfalso; simp at hi; omega
   ·rfl
  have hp:=h.1;have hxl:=h.2.2.len hp;have hms:=de (s:=R.size) (show i.toNat < xs.length by omega);obtain ⟨c',r1,r2,r3⟩:=stE (P:=P) (T:=T) (o:=i.toNat * R.size+j) (O.on k hk) hbk rfl hv hs h1 (by simp only [es]; omega);have hlen:(vs.take (i.toNat * R.size+j)++us++vs.drop (i.toNat * R.size+j+us.length)).length=vs.length:=by
   simp only [am,ao,bT]; omega
  refine ⟨c',by rw [hx]; exact rs r1,r2.le,_,O.set k hk r2 (fun b hb=>by rw [hb]; exact (ig hbk).1) (e':=es true R v E (vs.take (i.toNat * R.size+j)++us++vs.drop (i.toNat * R.size+j+us.length)) (xs.set i.toNat x')) r3 (fun b h=> .inl h),hp,?_,fun q y hy=>?_⟩
  ·rcases h.2.1 with ⟨_,rfl⟩ | ⟨g,cap,h2,h3,h4,h5⟩
   ·exfalso; simp at hi; omega
   ·exact .inr ⟨g,cap,by rw [dW]; exact h2,by rw [dW]; exact h3,h4,by rw [hlen]; exact h5⟩
  ·by_cases hq:q=i.toNat
   ·subst hq;rw [gd (by omega)] at hy;cases hy;have:((vs.take (i.toNat * R.size+j)++us++vs.drop (i.toNat * R.size+j+us.length)).drop (i.toNat * R.size)).take R.size=l':=by
     rw [←hn,←hm];rw [bM,kc (by rw [ao]; omega),dx];have e1:i.toNat * R.size+j - i.toNat * R.size=j:=by omega
     rw [e1,eQ,gk (by omega),bM,dx,cv,pF,pF];have h6:((vs.drop (i.toNat * R.size)).take j).length=j:=by rw [ao,bT]; omega
     rw [h6,bR (by omega),bR (l:=us) (by omega)]
     congr 2
     rw [Nat.add_assoc]
     congr 1
     omega
    rw [this];exact R.mono r2.le hx'
   ·rw [gP (nB hq)] at hy;have hold:=h.2.2 q y hy;have hqm:=de (s:=R.size) (List.getElem?_eq_some_iff.1 hy).1;have:((vs.take (i.toNat * R.size+j)++us++vs.drop (i.toNat * R.size+j+us.length)).drop (q * R.size)).take R.size=(vs.drop (q * R.size)).take R.size:=by
     rcases aN q i.toNat with hlt | hge
     ·have:=de (s:=R.size) hlt;rw [bM,cN (by rw [ao]; omega),dx,eQ,gk (by omega)]
     ·have:=de (s:=R.size) (show i.toNat < q by omega);have h7:(vs.take (i.toNat * R.size+j)++us).length=i.toNat * R.size+j+us.length:=by rw [am,ao]; omega
      rw [show q * R.size=(vs.take (i.toNat * R.size+j)++us).length+(q * R.size - (i.toNat * R.size+j+us.length)) by omega,←cv,eU,cv]
      congr 2
      omega
    rw [this];exact R.mono r2.le hold
 ·cases hset
theorem Own.app {E t ty:TypeId} {v u:Value} {vs:List Value} {xs ys zs:List α} {z:Value} {by_:Nat} {m:Bool} (k:Nat) (O:Own c G F) (hk:F[k]? = some (es m R v E vs xs)) (h:OA R c v vs xs) (hS:Sl R c u ys) (happ:app xs ys=some zs)
  (hT:P.underlying t=some (.slice E)) (hi:(P.info? E).map (fun i=>(i.zero,i.size,i.bytes))=some (some z,R.size,by_)) (hz:z.cells.size=R.size) (hby:Nat.ble by_ 128=true)
  (hx:execOp ρ o=(do pure (Next.value (←Builtin.append_ #[t,t] ty #[v,u])):Sem Next)):
  ∃v' c',(execOp ρ o).run P c.w= .ok (.value v') c'.w∧c.le c'∧∃vs',Own c' G (F.set k (es m R v' E vs' zs))∧OA R c' v' vs' zs:=by
 obtain ⟨v',c',h1,h2,h3⟩:=kF (P:=P) (t:=t) (ty:=ty) k O hk h hS happ hT hi hz hby;exact ⟨v',c',rx hx h1,h2,h3⟩
def dJ (R:Rp α) (c:Cx):List (List Value)→List α→Prop
 | [],[]=>True
 | l :: ls,x :: xs=>R.cells c l x∧dJ R c ls xs
 | _,_=>False
theorem dJ.len:∀{ls:List (List Value)} {xs:List α},dJ R c ls xs→ls.flatten.length=xs.length * R.size
 | [],[],_=>by simp
 | l :: ls,x :: xs,h=>by
  simp only [jq,am,an,R.len h.1,dJ.len h.2,cA,gM];omega
 | [],_ :: _,h=>h.elim
 | _ :: _,[],h=>h.elim
theorem dJ.get:∀{ls:List (List Value)} {xs:List α},dJ R c ls xs→AR R c ls.flatten xs
 | [],[],_=>fun i x h=>by simp at h
 | l :: ls,x :: xs,h=>fun i y hy=>by
  cases i with
  | zero=>
   simp only [fP,aq] at hy;subst hy;rw [jm,gQ,jq,←R.len h.1,List.take_left];exact h.1
  | succ i=>
   simp only [List.getElem?_cons_succ] at hy;rw [jq,cA,gM,Nat.add_comm (i * R.size),←R.len h.1,←cv,eU,R.len h.1];exact dJ.get h.2 i y hy
 | [],_ :: _,h=>h.elim
 | _ :: _,[],h=>h.elim
theorem Own.newS (m:Bool) {E:TypeId} {vs:List Value} {xs:List α} {cap:Nat} (O:Own c G F) (hp:0 < R.size) (hA:AR R c vs xs) (hc:xs.length≤cap) (hm:cap≤maxLen) (hcs:cap * R.size≤vs.length)
  (hr:(execOp ρ o).run P c.w= .ok (.value (.slice (some ⟨c.w.heap.size,0,none⟩) xs.length cap)) (c.w.alloc (.cells vs.toArray E))):
  ∃v c',(execOp ρ o).run P c.w= .ok (.value v) c'.w∧c.le c'∧∃vs,Own c' G (es m R v E vs xs :: F)∧OA R c' v vs xs:=by
 obtain ⟨c',h1,h2,h3,_,h4⟩:=Cx.new c vs E (cond m 0 (xs.length * R.size));refine ⟨_,c',by rw [h1]; exact hr,h2.le,vs,O.cons h2 (fun _=>id) (fun b hb=>?_) (fun b hb=>?_),hp,.inr ⟨_,_,rfl,hc,hm,hcs⟩,hA.mono h2.le⟩
 ·simp only [es,Go.Lt.bk,aq] at hb; subst hb; exact ⟨h3,h4⟩
 ·simp only [es,Go.Lt.bk,aq] at hb; omega
theorem Own.sl (m:Bool) {E:TypeId} {ls:List (List Value)} {vs:List Value} {xs:List α} (O:Own c G F) (hp:0 < R.size) (hv:ls.flatten=vs) (hR:dJ R c ls xs) (hm:Nat.ble xs.length 4294967296=true)
  (hr:(execOp ρ o).run P c.w= .ok (.value (.slice (some ⟨c.w.heap.size,0,none⟩) xs.length xs.length)) (c.w.alloc (.cells vs.toArray E))):
  ∃v c',(execOp ρ o).run P c.w= .ok (.value v) c'.w∧c.le c'∧∃vs,Own c' G (es m R v E vs xs :: F)∧OA R c' v vs xs:=by
 subst hv;have hm:=aw hm;exact Own.newS m O hp hR.get (aj _) (by unfold maxLen; omega) (by rw [hR.len]; exact aj _) hr
theorem Sl.cut {xs:List α} {l h m:Nat} {a:Option Addr} {cap:Nat} (hS:Sl R c (.slice a xs.length cap) xs) (h1:l≤h) (h2:h≤xs.length) (h3:h≤m) (h4:m≤cap):
  Sl R c (.slice (if m=l then a else a.map (·.add (l * R.size))) (h - l) (m - l)) ((xs.drop l).take (h - l)):=by
 obtain ⟨a',cap',hv,h5,h6,h7⟩:=hS;cases hv;have hlen:((xs.drop l).take (h - l)).length=h - l:=by rw [ao,bT]; omega
 refine ⟨_,m - l,by rw [hlen],by rw [hlen]; omega,by omega,fun i x hx=>?_⟩;rw [bj] at hx;split at hx
 ·rename_i hi
  rw [eR] at hx;obtain ⟨b,off,q,rfl,hq,hc⟩:=h7 _ _ hx;have hne:m≠l:=by omega
  refine ⟨b,off+l * R.size,q,?_,hq,fun j u hu=>?_⟩
  ·rw [af hne]; simp [dy]
  ·have:=hc j u hu
   rwa [show off+(l+i) * R.size+j=off+l * R.size+i * R.size+j by rw [cA]; omega] at this
 ·cases hx
theorem kV {xs zs:List α} {i j:Int} (h:slc xs i j=some zs):0≤i∧i≤j∧j≤xs.length∧zs=(xs.drop i.toNat).take (j - i).toNat:=by
 unfold slc at h;split at h
 ·rename_i hh
  exact ⟨hh.1,hh.2.1,hh.2.2,by simpa using h.symm⟩
 ·cases h
theorem nL {v:Value} {xs zs:List α} {T E:TypeId} {j:Int} {k':IntKind} (hT:P.underlying T=some (.slice E)) (hE:(P.info? E).map (·.size)=some R.size) (h:Sl R c v xs) (hz:slc xs 0 j=some zs):
  ∃v',(∀w,(Instr.sliceAt T v none (some (.int k' j)) none).run P w= .ok v' w)∧Sl R c v' zs:=by
 obtain ⟨h1,h2,h3,rfl⟩:=kV hz;obtain ⟨ti,hti,hsz⟩:=Option.map_eq_some_iff.1 hE;have hh:=h;obtain ⟨a,cap,rfl,h4,h5,h6⟩:=h;have hcut:=Sl.cut (l:=0) (h:=j.toNat) (m:=cap) hh (by omega) (by omega) (by omega) (aj _);rw [show (j - 0).toNat=j.toNat - 0 by omega];refine ⟨_,fun w=>?_,hcut⟩;have e2:0≤j∧j≤(cap:Int):=⟨by omega,by omega⟩;simp [Instr.sliceAt,aI hT,Instr.slice,Instr.sliceBounds,Instr.sliceBound,asIntOf,e2,sizeOf,typeInfo,hti]
theorem iR {v:Value} {xs zs:List α} {T E:TypeId} {i:Int} {k:IntKind} (hT:P.underlying T=some (.slice E)) (hE:(P.info? E).map (·.size)=some R.size) (h:Sl R c v xs) (hz:slc xs i xs.length=some zs):
  ∃v',(∀w,(Instr.sliceAt T v (some (.int k i)) none none).run P w= .ok v' w)∧Sl R c v' zs:=by
 obtain ⟨h1,h2,h3,rfl⟩:=kV hz;obtain ⟨ti,hti,hsz⟩:=Option.map_eq_some_iff.1 hE;have hh:=h;obtain ⟨a,cap,rfl,h4,h5,h6⟩:=h;have hcut:=Sl.cut (l:=i.toNat) (h:=xs.length) (m:=cap) hh (by omega) (by omega) (by omega) (aj _);rw [show ((xs.length:Int) - i).toNat=xs.length - i.toNat by omega];refine ⟨_,fun w=>?_,hcut⟩;have e1:0≤i∧i≤(xs.length:Int):=⟨h1,h2⟩;simp [Instr.sliceAt,aI hT,Instr.slice,Instr.sliceBounds,Instr.sliceBound,asIntOf,e1,sizeOf,typeInfo,hti,hsz]
def kW (n:Nat) (ks:List Nat):Bool:=ks.all (fun i=>Nat.blt i n) && decide ks.Nodup
theorem Own.selD (n:Nat) (ks:List Nat) (O:Own c G F) (hks:kW n ks=true) (hn:Nat.ble n F.length=true):Own c G (ks.map (fun i=>F.getD i jC)++F.drop n):=by
 simp only [kW,ac,jM,ag] at hks;have hn:=aw hn;refine Own.sel (L:=F.take n) ks (by rw [bh]; exact O) hks.2 ?_;rw [List.map_map];refine oB fun i hi=>?_;have h1:i < n:=by have:=hks.1 i hi; simpa [Nat.blt_eq] using this
 simp only [Function.comp,bj,ad h1,lM];rw [ai (by omega)];rfl
end
section
variable {P:Program} {c:Cx} {n:Fr} {e:Nat→Value} {fn:Func} {R:Ending→World→Prop}
theorem kp {t b:Nat} {T U:TypeId} {vs:List Value} (hr:fn.results= #[.cell t T]) (hv:ev n e (.tmp t)= .pointer (some ⟨b,0,none⟩))
  (hT:(P.underlying T).map (fun d=>match d with | .struct _ | .array _ _=>true | _=>false)=some true) (hs:(P.info? T).map (·.size)=some vs.length) (h:c.w.heap[b]? = some (.cells vs.toArray U (0,0)))
  (hR:R (.returned (.agg vs.toArray)) c.w):dO P fn n R .ret e c.w:=by
 have hl:=fS (P:=P) (w:=c.w) (b:=b) (o:=0) (l:=vs) hT hs (fun j u hu=>by simp [World.cell?,h,hu]);refine ⟨.agg vs.toArray,?_,hR⟩;have ht:=cY n e t;rw [hv,bS] at ht;simp [results,hr,ht,asAddr,hl]
theorem oF {w:World} {t u s:Nat} {v v' v'':Value} (hr:fn.results= #[.tmp t,.tmp u,.tmp s]) (hv:ev n e (.tmp t)=v) (hu:ev n e (.tmp u)=v') (hs:ev n e (.tmp s)=v'')
  (h:R (.returned (.tuple #[v,v',v''])) w):dO P fn n R .ret e w:=by
 refine ⟨.tuple #[v,v',v''],?_,h⟩;have h1:=cY n e t;have h2:=cY n e u;have h3:=cY n e s;rw [hv,bS] at h1;rw [hu,bS] at h2;rw [hs,bS] at h3;simp [results,hr,h1,h2,h3]
end
inductive EqP (P:Program) (xs ys:Array Value):List Field→Bool→Prop
 | nil:EqP P xs ys [] true
 | int {f:Field} {fs:List Field} {k:IntKind} {a b:Int} {r:Bool} (hn:decide (f.name= "_")=false) (hT:P.underlying f.type=some (.int k)) (hx:xs[f.offset]? = some (.int k a)) (hy:ys[f.offset]? = some (.int k b)) (h:EqP P xs ys fs r):EqP P xs ys (f :: fs) ((a==b) && r)
 | bool {f:Field} {fs:List Field} {a b:Bool} {r:Bool} (hn:decide (f.name= "_")=false) (hT:P.underlying f.type=some .bool) (hx:xs[f.offset]? = some (.bool a)) (hy:ys[f.offset]? = some (.bool b)) (h:EqP P xs ys fs r):EqP P xs ys (f :: fs) ((a==b) && r)
theorem dQ {P:Program} {T:TypeId} {xs:Array Value} {o:Nat} {v:Value} (w:World) (hT:(P.underlying T).map (fun d=>match d with | .struct _ | .array _ _=>true | _=>false)=some false) (h:xs[o]? = some v):(part T xs o).run P w= .ok v w:=by
 obtain ⟨d,hd,hx⟩:=Option.map_eq_some_iff.1 hT;have hi:(isAgg T).run P w= .ok false w:=by
  have:=aI (P:=P) (w:=w) hd;simp only [isAgg,cB,this,dw]
  cases d <;> simp_all
 simp [part,hi,h,Result.andThen]
theorem EqP.run {P:Program} {xs ys:Array Value} {fs:List Field} {r:Bool} (h:EqP P xs ys fs r) (d:Nat) (w:World):(Op.eqFields (d+1) xs ys fs).run P w= .ok r w:=by
 induction h with
 | nil=>simp [Op.eqFields]
 | @int f fs k a b r hn hT hx hy _ ih=>
  have h1:=dQ w (T:=f.type) (by rw [hT]; rfl) hx;have h2:=dQ w (T:=f.type) (by rw [hT]; rfl) hy;have h3:=run_equalIn_int w d f.type k k a b hT;simp only [Op.eqFields,ad (oO hn),cB,h1,h2,h3,dw];by_cases hab:a=b <;> simp [hab,ih]
 | @bool f fs a b r hn hT hx hy _ ih=>
  have h1:=dQ w (T:=f.type) (by rw [hT]; rfl) hx;have h2:=dQ w (T:=f.type) (by rw [hT]; rfl) hy;have h3:=run_equalIn_bool' w d f.type a b hT;simp only [Op.eqFields,ad (oO hn),cB,h1,h2,h3,dw];by_cases hab:a=b <;> simp [hab,ih]
section
variable {P:Program} {ρ:Operand→Value} {o:Oper} {T U:TypeId} {xs ys:Array Value} {fs:Array Field} {r:Bool}
theorem kZ (ht:P.underlying T=some (.struct fs)) (hp:P.stoodInHeld T=false) (hm:P.eqGuardType P.depth T=false) (h:EqP P xs ys fs.toList r)
  (hx:execOp ρ o=(do pure (Next.value (←(do eqGuard .eql T (.const .nilIface) (.const .nilIface) (.agg xs) (.agg ys); binOp .eql T (.agg xs) (.agg ys)))):Sem Next)) (w:World):(execOp ρ o).run P w= .ok (.value (.bool r)) w:=by
 have hf:P.fieldsOf T=fs:=by simp [Program.fieldsOf,ht]
 rw [hx];refine rv ?_;simp only [cB,pI w .eql T (.const .nilIface) (.const .nilIface) xs ys hm,dw,run_eql_struct,pH w 9999 T xs ys (by rw [hf]; exact ht) hp];rw [hf,h.run];rfl
theorem kX (ht:P.underlying T=some (.struct fs)) (hp:P.stoodInHeld T=false) (hm:P.eqGuardType P.depth T=false) (h:EqP P xs ys fs.toList r)
  (hx:execOp ρ o=(do pure (Next.value (←(do eqGuard .neq T (.const .nilIface) (.const .nilIface) (.agg xs) (.agg ys); binOp .neq T (.agg xs) (.agg ys)))):Sem Next)) (w:World):(execOp ρ o).run P w= .ok (.value (.bool (!r))) w:=by
 have hf:P.fieldsOf T=fs:=by simp [Program.fieldsOf,ht]
 rw [hx];refine rv ?_;simp only [cB,pI w .neq T (.const .nilIface) (.const .nilIface) xs ys hm,dw,run_neq_struct,pH w 9999 T xs ys (by rw [hf]; exact ht) hp];rw [hf,h.run];rfl
end
end Go.Lt
namespace Go.Lt
abbrev T16:=Int×Int×Int×Int×Int×Int×Int×Int×Int×Int×Int×Int×Int×Int×Int×Int
def l16 (l:List Int):T16:=(l.getD 0 0,l.getD 1 0,l.getD 2 0,l.getD 3 0,l.getD 4 0,l.getD 5 0,l.getD 6 0,l.getD 7 0,l.getD 8 0,l.getD 9 0,l.getD 10 0,l.getD 11 0,l.getD 12 0,l.getD 13 0,l.getD 14 0,l.getD 15 0)
section
variable {P:Program} {c c':Cx} {G:Gm} {F:List En} {ρ:Operand→Value} {o:Oper}
theorem dR {T E:TypeId} {n sz b j:Nat} {k:IntKind} {i:Int} (hT:P.underlying T=some (.array n E)) (hE:(P.info? E).map (·.size)=some sz) (h0:0≤i) (h1:i < (n:Int)) (w:World):
  (Instr.indexAt T (.pointer (some ⟨b,j,none⟩)) (.int k i)).run P w= .ok (.pointer (some ⟨b,j+i.toNat * sz,none⟩)) w:=by
 obtain ⟨ti,hti,hsz⟩:=Option.map_eq_some_iff.1 hE;simp [Instr.indexAt,asIntOf,Instr.sureAddr,aI hT,h0,h1,sizeOf,typeInfo,hti,hsz,dy]
theorem dJ.map {α:Type} {R:Rp α} {c:Cx} (f:α→List Value) (h:∀x,R.cells c (f x) x):∀l:List α,dJ R c (l.map f) l
 | []=>trivial
 | x :: l=>⟨h x,dJ.map f h l⟩
end
end Go.Lt
namespace Go.Lt
section
variable {P:Program} {c c':Cx} {G:Gm} {F:List En} {ρ:Operand→Value} {o:Oper}
theorem Own.frzB {b:Nat} {T:TypeId} {vs:List Value} (k:Nat) (O:Own c G F) (hk:F[k]? = some ⟨.pointer (some ⟨b,0,none⟩),T,vs,0⟩):
  ∃c',c'.w=c.w∧c.le c'∧Own c' G (F.set k ⟨.pointer (some ⟨b,0,none⟩),T,vs,vs.length⟩)∧∀j u,vs[j]? = some u→Im c' b (0+j) u:=by
 have hon:=O.on k hk;obtain ⟨hh,hA⟩:=hon.ce (b:=b) rfl
 let c':Cx:=⟨c.w,fun b' o=>c.A b' o∧¬(b'=b∧o < vs.length),c.t⟩
 have hle:c.le c':=⟨rfl,rfl,aj _,fun _ _ _ h=>⟨rfl,fun h2=>h h2.1⟩,fun _ _ _=>rfl,fun _ _ _=>rfl,fun _ _ _ h=>h⟩;have hb:c.but (fun b'=>b'=b) c':=⟨hle,rfl,fun b' hb' hd=>⟨rfl,fun o=>⟨fun h=>h.1,fun h=>⟨h,fun h2=>hd h2.1⟩⟩⟩⟩;refine ⟨c',rfl,hle,O.set k hk hb (fun b' h=>by rw [h]; rfl) (fun b' hb'=>?_) (fun b' h=> .inl h),fun j u hu=>⟨hon.lt rfl,fun hA'=>?_,?_⟩⟩
 ·simp only [bk,aq] at hb';subst hb';refine ⟨hh,fun o=>?_⟩;show (c.A b o∧¬(b=b∧o < vs.length))↔vs.length≤o;rw [hA o];simp
 ·have:=(List.getElem?_eq_some_iff.1 hu).1;exact hA'.2 ⟨rfl,by omega⟩
 ·show c.w.cell? _=_;rw [fe _ _ _ _ _ _ hh,aB,cC,hu]
end
section
variable {P:Program} {c:Cx} {n:Fr} {e:Nat→Value} {fn:Func} {R:Ending→World→Prop}
end
section
variable {D:List Nat} {K:Cx→Prop} {P:Program} {l:List Oper} {n:Fr} {Q:Exit→(Nat→Value)→World→Prop} {fuel:Nat} {li:List Bool} {e:Nat→Value} {c:Cx} {o:Oper}
end
end Go.Lt
namespace Go.Lt
theorem pt {c c':Cx} (k:c.le c':=by repeat (first | assumption | exact Cx.le.refl _ | refine Cx.le.trans ?_ (by assumption))):c.le c':=k
section
variable {c c':Cx} {α:Type} {R:Rp α}
theorem Sl.m {v:Value} {xs:List α} (h:Sl R c v xs) (k:c.le c':=by repeat (first | assumption | refine Cx.le.trans ?_ (by assumption))):Sl R c' v xs:=h.mono k
theorem OA.m {v:Value} {vs:List Value} {xs:List α} (h:OA R c v vs xs) (k:c.le c':=by repeat (first | assumption | refine Cx.le.trans ?_ (by assumption))):OA R c' v vs xs:=h.mono k
theorem mm {b o:Nat} {L:List Value} (h:∀j u,L[j]? = some u→Im c b (o+j) u) (k:c.le c':=by repeat (first | assumption | refine Cx.le.trans ?_ (by assumption))):∀j u,L[j]? = some u→Im c' b (o+j) u:=fun j u hu=>(h j u hu).mono k
theorem mi {b o:Nat} {u:Value} (h:Im c b o u) (k:c.le c':=by repeat (first | assumption | refine Cx.le.trans ?_ (by assumption))):Im c' b o u:=h.mono k
end
theorem i7 {e:Nat→Value}:∀{l:List (Nat×Value)},l.map (fun x=>e x.1)=l.map (fun x=>x.2)→holds e l
 | [],_=>trivial
 | (t,v) :: l,h=>by
  simp only [ft,pL] at h;exact ⟨h.1,i7 h.2⟩
theorem us {e:Nat→Value} {l:List (Nat×Value)} (h:l.map (fun x=>e x.1)=l.map (fun x=>x.2):=by kernel_rfl):e=ups e l:=iQ (i7 h)
abbrev Jn (c0:Cx) (q:Cx→List (Nat×Value)→Prop) (e:Nat→Value) (w:World):Prop:=∃(c:Cx) (g:Nat→Value) (l:List (Nat×Value)),w=c.w∧c0.le c∧e=ups g l∧q c l
theorem jn {c0:Cx} {q:Cx→List (Nat×Value)→Prop} {e:Nat→Value} {l:List (Nat×Value)} (c:Cx) (h:q c l) (k:c0.le c:=by repeat (first | assumption | exact Cx.le.refl _ | refine Cx.le.trans ?_ (by assumption))) (u:l.map (fun x=>e x.1)=l.map (fun x=>x.2):=by kernel_rfl):Jn c0 q e c.w:=⟨c,e,l,rfl,k,us u,h⟩
theorem qq {c0:Cx} {X:Cx→Value→Prop} {v:Value} (c:Cx) (h:X c v) (k:c0.le c:=by repeat (first | assumption | exact Cx.le.refl _ | refine Cx.le.trans ?_ (by assumption))):ay c0 X (.returned v) c.w:=⟨v,c,rfl,rfl,k,h⟩
theorem bn {α β:Type} {x:Option α} {f:α→Option β} {r:β} {C:Prop} (H:x.bind f=some r) (k:∀a,x=some a→f a=some r→C):C:=by
 obtain ⟨a,h1,h2⟩:=bs H;exact k a h1 h2
theorem si {α:Type} {a b:α} (h:some a=some b):a=b:=kG h
theorem bo (b:Bool):b=true∨b=false:=Bool.eq_false_or_eq_true b
theorem Own.sD {c:Cx} {G:Gm} {F:List En} (O:Own c G F) (n:Nat) (ks:List Nat) (h1:kW n ks=true:=by kernel_rfl) (h2:Nat.ble n F.length=true:=by kernel_rfl):Own c G (ks.map (fun i=>F.getD i jC)++F.drop n):=O.selD n ks h1 h2
section
variable {P:Program} {c c':Cx} {G:Gm} {F:List En} {α:Type} {R:Rp α} {ρ:Operand→Value} {o:Oper} {fn:Func}
variable {n:Fr} {ops:Array Oper} {Q:Exit→(Nat→Value)→World→Prop} {rest:List Oper} {e:Nat→Value} {D:List Nat} {K:Cx→Prop} {l:List Oper} {fuel:Nat} {li:List Bool} {a b:Code} {w:World}
def val:Result Next→Value
 | .ok (.value v) _=>v
 | _=>undef
theorem V (h:WL P ops n Q rest (upO e o.dst (val ((execOp (ev n e) o).run P w))) w) (hg:o.guard=none:=by exact rfl) (hr:(execOp (ev n e) o).run P w= .ok (.value (val ((execOp (ev n e) o).run P w))) w:=by kernel_rfl):WL P ops n Q (o :: rest) e w:=WL.val0 hg hr h
theorem vx {s:Sem Value} {v:Value} (h0:s.run P w= .ok v w) (h:WL P ops n Q rest (upO e o.dst v) w) (hg:o.guard=none:=by exact rfl) (hx:execOp (ev n e) o=(do pure (Next.value (←s)):Sem Next):=by kernel_rfl):WL P ops n Q (o :: rest) e w:=WL.val0 hg (rx hx h0) h
theorem vr (v:Value) (hr:(execOp (ev n e) o).run P w= .ok (.value v) w) (h:WL P ops n Q rest (upO e o.dst v) w) (hg:o.guard=none:=by exact rfl):WL P ops n Q (o :: rest) e w:=WL.val0 hg hr h
theorem cl {f:FuncId} {args:Array Value} {X:Cx→Value→Prop} (hc:Calls P f args c.w (ay c X)) (h:∀v c',c.le c'→X c' v→WL P ops n Q rest (upO e o.dst v) c'.w) (hg:o.guard=none:=by exact rfl) (hr:(execOp (ev n e) o).run P c.w= .ok (.enter f args) c.w:=by kernel_rfl):WL P ops n Q (o :: rest) e c.w:=WL.callP hg hr hc h
theorem me {X:Value→Cx→Prop} (hr:∃v c',(execOp (ev n e) o).run P c.w= .ok (.value v) c'.w∧c.le c'∧X v c') (h:∀v c',c.le c'→X v c'→WL P ops n Q rest (upO e o.dst v) c'.w) (hg:o.guard=none:=by exact rfl):WL P ops n Q (o :: rest) e c.w:=WL.mem hg hr h
theorem md {X:Cx→Prop} (hr:∃c',(execOp (ev n e) o).run P c.w= .ok .skip c'.w∧c.le c'∧X c') (h:∀c',c.le c'→X c'→WL P ops n Q rest (upO e o.dst undef) c'.w) (hg:o.guard=none:=by exact rfl):WL P ops n Q (o :: rest) e c.w:=WL.memD hg hr h
theorem cn {α:Type} {t:Bool} {x y:Option α} {r:α} {cd:Operand} (H:(if t=true then x else y)=some r) (h1:t=true→x=some r→W P n a Q e w) (h2:t=false→y=some r→W P n b Q e w) (hc:ev n e cd= .bool t:=by kernel_rfl):W P n (.cond cd a b) Q e w:=
 W.cond hc (fun h=>h1 h (it h H)) (fun h=>h2 h (ie h H))
theorem lp {σ τ:Type} {step:σ→Option (σ ⊕ τ)} {fuel:Nat} {s:σ} {t:τ} (H:aU fuel step s=some t) (F:σ→(Nat→Value)→World→Prop) (Out:τ→Exit→(Nat→Value)→World→Prop)
  (hb:∀s x e w,step s=some x→F s e w→W P n a (lpQ F Out x) e w) (h0:F s e w) (hQ:∀x e w,Out t x e w→Q x e w):W P n (.loop a) Q e w:=W.loop F Out hb H h0 hQ
theorem en {P:Program} {f:FuncId} {fn:Func} {code:Code} {n:Nat} {l:List Value} {w:World} {R:Ending→World→Prop} (hf:P.funcs[f]? = some fn) (hb:fn.body=some code) (hn:fn.ntmps=n) (h:W P ⟨n,[],none⟩ code (dO P fn ⟨n,[],none⟩ R) (ar l) w) (hl:Nat.ble l.length n=true:=by rfl):Calls P f l.toArray w R:=enter hf hb hn hl h
theorem tx (i:Nat) {s:Sem Value} {v:Value} (h0:∀c',c.le c'→s.run P c'.w= .ok v c'.w) (h:AC D K P l n Q fuel (li.set i true) (upO e o.dst v) c) (hi:l.toArray[i]? = some o:=by exact rfl) (ht:tk l n li i=true:=by kernel_rfl) (hw:bU l.toArray n e o=true:=by kernel_rfl)
  (hx:execOp (ev n e) o=(do pure (Next.value (←s)):Sem Next):=by kernel_rfl):AC D K P l n Q (fuel+1) li e c:=AC.take i v hi ht hw (fun c' k=>rx hx (h0 c' k)) h
theorem tkx (i:Nat) {s:Sem Value} {v:Value} (p:K c) (h0:∀c',c.le c'→K c'→s.run P c'.w= .ok v c'.w) (h:AC D K P l n Q fuel (li.set i true) (upO e o.dst v) c) (hi:l.toArray[i]? = some o:=by exact rfl) (ht:tk l n li i=true:=by kernel_rfl) (hB:okB l.toArray li i D=true:=by kernel_rfl)
  (hw:bU l.toArray n e o=true:=by kernel_rfl) (hx:execOp (ev n e) o=(do pure (Next.value (←s)):Sem Next):=by kernel_rfl):AC D K P l n Q (fuel+1) li e c:=AC.takeK i v p hi ht hB hw (fun c' k q=>rx hx (h0 c' k q)) h
theorem tp (i:Nat) (h:AC D K P l n Q fuel (li.set i true) (upO e o.dst undef) c) (hi:l.toArray[i]? = some o:=by exact rfl) (ht:tk l n li i=true:=by kernel_rfl) (hw:bU l.toArray n e o=false:=by kernel_rfl):AC D K P l n Q (fuel+1) li e c:=AC.pass i hi ht hw h
theorem dn (h:Q .normal e c.w) (hr:Region.ready .any l.toArray li.toArray= []:=by kernel_rfl):AC D K P l n Q fuel li e c:=AC.done hr h
theorem o1 (i:Nat) (h:Go1 D K P l n Q fuel li e c i) (hr:Region.ready .any l.toArray li.toArray= [i]:=by kernel_rfl):AC D K P l n Q (fuel+1) li e c:=AC.one i hr h
theorem gm (i:Nat) {X:Value→Cx→Prop} (hr:∃v c',(execOp (ev n e) o).run P c.w= .ok (.value v) c'.w∧c.le c'∧X v c') (h:∀v c',c.le c'→X v c'→(D.contains i=true∨K c')∧AC D K P l n Q fuel (li.set i true) (upO e o.dst v) c')
  (hi:l.toArray[i]? = some o:=by exact rfl) (hsl:bg n l=true:=by kernel_rfl) (hw:bU l.toArray n e o=true:=by kernel_rfl):Go1 D K P l n Q fuel li e c i:=Go1.mem i hi hsl hw hr h
theorem gD (i:Nat) {X:Cx→Prop} (hr:∃c',(execOp (ev n e) o).run P c.w= .ok .skip c'.w∧c.le c'∧X c') (h:∀c',c.le c'→X c'→(D.contains i=true∨K c')∧AC D K P l n Q fuel (li.set i true) (upO e o.dst undef) c')
  (hi:l.toArray[i]? = some o:=by exact rfl) (hsl:bg n l=true:=by kernel_rfl) (hw:bU l.toArray n e o=true:=by kernel_rfl):Go1 D K P l n Q fuel li e c i:=Go1.memD i hi hsl hw hr h
theorem gc (i:Nat) {f:FuncId} {args:Array Value} {X:Cx→Value→Prop} (hc:Calls P f args c.w (ay c X)) (h:∀v c',c.le c'→X c' v→(D.contains i=true∨K c')∧AC D K P l n Q fuel (li.set i true) (upO e o.dst v) c')
  (hi:l.toArray[i]? = some o:=by exact rfl) (hsl:bg n l=true:=by kernel_rfl) (hw:bU l.toArray n e o=true:=by kernel_rfl) (hr:(execOp (ev n e) o).run P c.w= .ok (.enter f args) c.w:=by kernel_rfl):Go1 D K P l n Q fuel li e c i:=Go1.callP i hi hsl hw hr hc h
theorem rD (D:List Nat) (K:Cx→Prop) {id:Nat} (O:Own c G F) (h:∀c',c.le c'→Own c' G F→AC D K P l n Q l.length (List.replicate l.length false) e c') (hm:P.follows .mixedOrders=true:=by kernel_rfl):W P n (.region id l.toArray true) Q e c.w:=W.regionD D K O hm h
theorem l1 {T:TypeId} {b o:Nat} {v:Value} {d:TypeDesc} (hT:P.underlying T=some d) (h:Im c b o v) (hd:(match d with | .struct _ | .array _ _=>false | _=>true)=true:=by rfl):(Instr.loadAt T (.pointer (some ⟨b,o,none⟩))).run P c.w= .ok v c.w:=ko hT hd h
theorem lN (T:TypeId) {b o:Nat} {l:List Value} (h:∀j u,l[j]? = some u→Im c b (o+j) u) (hT:(P.underlying T).map (fun d=>match d with | .struct _ | .array _ _=>true | _=>false)=some true:=by kernel_rfl) (hs:(P.info? T).map (·.size)=some l.length:=by kernel_rfl):
  (Instr.loadAt T (.pointer (some ⟨b,o,none⟩))).run P c.w= .ok (.agg l.toArray) c.w:=km hT hs h
theorem le1 (j:Nat) {T:TypeId} {e:En} {b:Nat} {v:Value} {d:TypeDesc} (hT:P.underlying T=some d) (h:e.on c) (hd:(match d with | .struct _ | .array _ _=>false | _=>true)=true:=by rfl) (hb:blk e.v=some b:=by rfl) (hj:e.vs[j]? = some v:=by rfl):
  (Instr.loadAt T (.pointer (some ⟨b,j,none⟩))).run P c.w= .ok v c.w:=fF hT hd h hb hj
theorem leN (T j:Nat) (l:List Value) {e:En} {b:Nat} (h:e.on c) (hT:(P.underlying T).map (fun d=>match d with | .struct _ | .array _ _=>true | _=>false)=some true:=by kernel_rfl) (hs:(P.info? T).map (·.size)=some l.length:=by kernel_rfl) (hb:blk e.v=some b:=by rfl) (hl:(e.vs.drop j).take l.length=l:=by rfl):
  (Instr.loadAt T (.pointer (some ⟨b,j,none⟩))).run P c.w= .ok (.agg l.toArray) c.w:=iV hT hs h hb hl
theorem ix {v:Value} {xs:List α} {T E:TypeId} {i:Int} {x:α} (hT:P.underlying T=some (.slice E)) (h:Sl R c v xs) (hi:idx xs i=some x) (hE:(P.info? E).map (·.size)=some R.size:=by kernel_rfl):
  (Instr.indexAt T v (.int .i64 i)).run P w= .ok (.pointer (some ⟨sb v,so v+i.toNat * R.size,none⟩)) w:=hC hT hE h hi w
theorem ixO {v:Value} {vs:List Value} {xs:List α} {T E:TypeId} {i:Int} {x:α} (hT:P.underlying T=some (.slice E)) (h:OA R c v vs xs) (hi:idx xs i=some x) (hE:(P.info? E).map (·.size)=some R.size:=by kernel_rfl):
  (Instr.indexAt T v (.int .i64 i)).run P w= .ok (.pointer (some ⟨sb v,i.toNat * R.size,none⟩)) w:=jz hT hE h hi w
theorem ln {v:Value} {xs:List α} {T E:TypeId} (ty:TypeId) (hT:P.underlying T=some (.slice E)) (h:Sl R c v xs):(Builtin.len_ #[T] ty #[v]).run P w= .ok (.int .i64 (xs.length:Int)) w:=lY hT h w
theorem lnO {v:Value} {vs:List Value} {xs:List α} {T E:TypeId} (ty:TypeId) (hT:P.underlying T=some (.slice E)) (h:OA R c v vs xs):(Builtin.len_ #[T] ty #[v]).run P w= .ok (.int .i64 (xs.length:Int)) w:=kY hT h w
theorem bx (T:TypeId) (vs:List Value) (O:Own c G F) (hr:(execOp ρ o).run P c.w= .ok (.value (.pointer (some ⟨c.w.heap.size,0,none⟩))) (c.w.alloc (.cells vs.toArray T)):=by kernel_rfl):
  ∃v c',(execOp ρ o).run P c.w= .ok (.value v) c'.w∧c.le c'∧∃b,v= .pointer (some ⟨b,0,none⟩)∧Own c' G F∧∀j u,vs[j]? = some u→Im c' b (0+j) u:=Own.bx O hr
theorem al (T:TypeId) (vs:List Value) (O:Own c G F) (hr:(execOp ρ o).run P c.w= .ok (.value (.pointer (some ⟨c.w.heap.size,0,none⟩))) (c.w.alloc (.cells vs.toArray T)):=by kernel_rfl):
  ∃v c',(execOp ρ o).run P c.w= .ok (.value v) c'.w∧c.le c'∧∃b,v= .pointer (some ⟨b,0,none⟩)∧Own c' G (⟨.pointer (some ⟨b,0,none⟩),T,vs,0⟩ :: F):=Own.al O hr
theorem sA (T:TypeId) (us:List Value) {e:En} {b:Nat} (k:Nat) (O:Own c G F) (h1:eO us) (hx:execOp ρ o=(do Instr.storeAt T (.pointer (some ⟨b,0,none⟩)) (.agg us.toArray); pure Next.skip:Sem Next):=by kernel_rfl) (hk:F[k]? = some e:=by rfl) (hb:blk e.v=some b:=by rfl) (hlim:e.lim=0:=by rfl)
  (hs:(P.info? T).map (·.size)=some us.length:=by kernel_rfl) (hl:Nat.ble (0+us.length) e.vs.length=true:=by rfl) (hn:e.vs.take 0++us++e.vs.drop (0+us.length)=us:=by rfl):∃c',(execOp ρ o).run P c.w= .ok .skip c'.w∧c.le c'∧Own c' G (F.set k ⟨e.v,e.T,us,0⟩):=Own.st k O hx hk hb hlim rfl hs h1 hl hn
theorem lJ {v:Value} (h:v.oneCell'=true):v.cells.toList= [v]:=by
 cases v <;> first | rfl | (simp [Value.oneCell'] at h)
theorem sC (T j:Nat) (v:Value) (nw:List Value) {e:En} {b:Nat} (k:Nat) (O:Own c G F) (h1:eO [v]) (hx:execOp ρ o=(do Instr.storeAt T (.pointer (some ⟨b,j,none⟩)) v; pure Next.skip:Sem Next):=by kernel_rfl) (hk:F[k]? = some e:=by rfl) (hb:blk e.v=some b:=by rfl) (hlim:e.lim=0:=by rfl)
  (hs:(P.info? T).map (·.size)=some 1:=by kernel_rfl) (hl:Nat.ble (j+1) e.vs.length=true:=by rfl) (hn:e.vs.take j++ [v]++e.vs.drop (j+1)=nw:=by rfl):∃c',(execOp ρ o).run P c.w= .ok .skip c'.w∧c.le c'∧Own c' G (F.set k ⟨e.v,e.T,nw,0⟩):=Own.st k O hx hk hb hlim (lJ h1.1) hs h1 hl hn
theorem sl (R:Rp α) (E:TypeId) (ls:List (List Value)) (xs:List α) (O:Own c G F) (hR:dJ R c ls xs) (hp:0 < R.size:=by exact au _) (hm:Nat.ble xs.length 4294967296=true:=by kernel_rfl)
  (hr:(execOp ρ o).run P c.w= .ok (.value (.slice (some ⟨c.w.heap.size,0,none⟩) xs.length xs.length)) (c.w.alloc (.cells ls.flatten.toArray E)):=by kernel_rfl):
  ∃v c',(execOp ρ o).run P c.w= .ok (.value v) c'.w∧c.le c'∧∃vs,Own c' G (es true R v E vs xs :: F)∧OA R c' v vs xs:=Own.sl true O hp rfl hR hm hr
theorem ap (R:Rp α) (z:Value) (by_ ty:Nat) {E t:TypeId} {v u:Value} {vs:List Value} {xs ys zs:List α} {m:Bool} (k:Nat) (O:Own c G F) (h:OA R c v vs xs) (hS:Sl R c u ys) (happ:app xs ys=some zs) (hT:P.underlying t=some (.slice E)) (hk:F[k]? = some (es m R v E vs xs):=by rfl)
  (hi:(P.info? E).map (fun i=>(i.zero,i.size,i.bytes))=some (some z,R.size,by_):=by kernel_rfl) (hz:z.cells.size=R.size:=by rfl) (hby:Nat.ble by_ 128=true:=by kernel_rfl) (hx:execOp ρ o=(do pure (Next.value (←Builtin.append_ #[t,t] ty #[v,u])):Sem Next):=by kernel_rfl):
  ∃v' c',(execOp ρ o).run P c.w= .ok (.value v') c'.w∧c.le c'∧∃vs',Own c' G (F.set k (es m R v' E vs' zs))∧OA R c' v' vs' zs:=Own.app k O hk h hS happ hT hi hz hby hx
variable {RR:Ending→World→Prop}
theorem r0 (h:RR (.returned (.tuple #[])) w) (hr:fn.results= #[]:=by rfl):dO P fn n RR .ret e w:=oI hr h
theorem n0 (h:RR (.returned (.tuple #[])) w) (hr:fn.results= #[]:=by rfl):dO P fn n RR .normal e w:=oX hr h
theorem r1 {t:Nat} {v:Value} (h:RR (.returned v) w) (hr:fn.results= #[.tmp t]:=by rfl) (hv:ev n e (.tmp t)=v:=by kernel_rfl):dO P fn n RR .ret e w:=oH hr hv h
theorem r2 {t u:Nat} {v v':Value} (h:RR (.returned (.tuple #[v,v'])) w) (hr:fn.results= #[.tmp t,.tmp u]:=by rfl) (hv:ev n e (.tmp t)=v:=by kernel_rfl) (hu:ev n e (.tmp u)=v':=by kernel_rfl):dO P fn n RR .ret e w:=oG hr hv hu h
theorem r3 {t u s:Nat} {v v' v'':Value} (h:RR (.returned (.tuple #[v,v',v''])) w) (hr:fn.results= #[.tmp t,.tmp u,.tmp s]:=by rfl) (hv:ev n e (.tmp t)=v:=by kernel_rfl) (hu:ev n e (.tmp u)=v':=by kernel_rfl) (hs:ev n e (.tmp s)=v'':=by kernel_rfl):dO P fn n RR .ret e w:=oF hr hv hu hs h
end
abbrev I (x:Int):Value:= .int .i64 x
abbrev J (x:Int):Value:= .int .i32 x
abbrev B (x:Bool):Value:= .bool x
abbrev Q (b:Nat):Value:= .pointer (some ⟨b,0,none⟩)
abbrev Qo (b o:Nat):Value:= .pointer (some ⟨b,o,none⟩)
abbrev ae (a b c:Int):Value:= .agg #[I a,I b,I c]
abbrev III (a b:Int):Value:= .agg #[I a,I b]
abbrev pG (a b c:Int):Value:= .agg #[J a,J b,J c]
abbrev JII (a b:Int):Value:= .agg #[J a,J b]
abbrev Y:Value:= .slice none 0 0
abbrev Eb (b:Nat) (T:TypeId) (l:List Value):En:=⟨.pointer (some ⟨b,0,none⟩),T,l,0⟩
end Go.Lt
namespace Go.Lt
abbrev T2:=Int×Int
def a2 (t:T2):List Int:=[t.1,t.2]
end Go.Lt
namespace Go.Proofs.Ytjghgpnafaoojaa
open Go Go.Lt
set_option linter.unusedVariables false
structure av where
 Break:Int
 Pict:Bool
 Conj:Int
 East:Int
def nz:Rp av where
 size:=4
 cells:=fun _ l x=>l= [.int .i64 x.Break,.bool x.Pict,.int .i64 x.Conj,.int .i64 x.East]
 len:=by
  intro c l x h
  obtain rfl:=h
  rfl
 one:=by
  intro c l x h v hv
  obtain rfl:=h
  simp only [cm,dI,lg] at hv
  rcases hv with rfl | rfl | rfl | rfl
  ·rfl
  ·rfl
  ·rfl
  ·rfl
 mono:=by
  intro c c2 l x hc h
  obtain rfl:=h
  exact rfl
structure aa where
 Lo:Int
 Hi:Int
 Val:Int
def ab:Rp aa where
 size:=3
 cells:=fun _ l x=>l= [.int .i64 x.Lo,.int .i64 x.Hi,.int .i64 x.Val]
 len:=by
  intro c l x h
  obtain rfl:=h
  rfl
 one:=by
  intro c l x h v hv
  obtain rfl:=h
  simp only [cm,dI,lg] at hv
  rcases hv with rfl | rfl | rfl
  ·rfl
  ·rfl
  ·rfl
 mono:=by
  intro c c2 l x hc h
  obtain rfl:=h
  exact rfl
def dB:Rp (Int×Int) where
 size:=2
 cells:=fun _ l x=>l= [.int .i32 x.1,.int .i32 x.2]
 len:=by
  intro c l x h
  obtain rfl:=h
  rfl
 one:=by
  intro c l x h v hv
  obtain rfl:=h
  simp only [cm,dI,lg] at hv
  rcases hv with rfl | rfl
  ·rfl
  ·rfl
 mono:=fun _ h=>h
def ah:Rp (Int×Int) where
 size:=2
 cells:=fun _ l x=>l= [.int .i64 x.1,.int .i64 x.2]
 len:=by
  intro c l x h
  obtain rfl:=h
  rfl
 one:=by
  intro c l x h v hv
  obtain rfl:=h
  simp only [cm,dI,lg] at hv
  rcases hv with rfl | rfl
  ·rfl
  ·rfl
 mono:=fun _ h=>h
def aQ:Rp (Int×Int×Int) where
 size:=3
 cells:=fun _ l x=>l= [.int .i64 x.1,.int .i64 x.2.1,.int .i64 x.2.2]
 len:=by
  intro c l x h
  obtain rfl:=h
  rfl
 one:=by
  intro c l x h v hv
  obtain rfl:=h
  simp only [cm,dI,lg] at hv
  rcases hv with rfl | rfl | rfl
  ·rfl
  ·rfl
  ·rfl
 mono:=fun _ h=>h
abbrev Sto:Type:=Unit
end Go.Proofs.Ytjghgpnafaoojaa
namespace Go.Lt
theorem ax {n:Int} (h: -9223372036854775808≤n∧n≤9223372036854775807):w64 n=n:=by
 unfold w64;rw [IntKind.wrap_i64];omega
theorem kM {n:Int} (h: -2147483648≤n∧n≤2147483647):w32 n=n:=by
 unfold w32;rw [IntKind.wrap_i32];omega
theorem bsm {α β:Type} (a:α) (f:α→Option β):(some a).bind f=f a:=by simp
theorem fG {σ τ:Type} {step:σ→Option (σ ⊕ τ)} (Inv:σ→Prop) (μ:σ→Nat) (post:τ→Prop)
  (h:∀s,Inv s→(∃s',step s=some (.inl s')∧Inv s'∧μ s' < μ s)∨∃t,step s=some (.inr t)∧post t):
  ∀(fuel:Nat) (s:σ),Inv s→μ s < fuel→∃t,aU fuel step s=some t∧post t:=by
 intro fuel
 induction fuel with
 | zero=>intro s _ hm; omega
 | succ k ih=>
  intro s hs hm;rcases h s hs with ⟨s',h1,h2,h3⟩ | ⟨t,h1,h2⟩
  ·obtain ⟨t,h4,h5⟩:=ih s' h2 (by omega);exact ⟨t,by simp [aU,h1,h4],h5⟩
  ·exact ⟨t,by simp [aU,h1],h2⟩
theorem jW {σ τ:Type} {step:σ→Option (σ ⊕ τ)} (Inv:σ→Prop) (μ:σ→Nat) {t:τ}
  (h:∀s,Inv s→(∃s',step s=some (.inl s')∧Inv s'∧μ s' < μ s)∨step s=some (.inr t)) {fuel:Nat} {s:σ} (h0:Inv s) (hm:μ s < fuel):aU fuel step s=some t:=by
 obtain ⟨t',h1,h2⟩:=fG Inv μ (fun x=>x=t) (fun s hs=>(h s hs).imp id fun h=>⟨t,h,rfl⟩) fuel s h0 hm;rw [h1,h2]
theorem dL (a b:Bool):orE a (some b)=some (a || b):=by cases a <;> rfl
theorem fa (a b:Bool):cW a (some b)=some (a && b):=by cases a <;> rfl
theorem gb (x:Option Bool):cW true x=x:=rfl
theorem dV (x:Option Bool):cW false x=some false:=rfl
theorem gy {α:Type} (xs:List α) (i:Nat):idx xs (i:Int)=xs[i]? :=by
 unfold idx;rw [ad (iP i)];rfl
theorem cr {α:Type} {xs:List α} {i:Nat} (h:i < xs.length):idx xs (i:Int)=some xs[i]:=by
 rw [gy,ai h]
theorem gB {α:Type} {xs:List α} {i:Nat} (h:i < xs.length) (x:α):gV xs (i:Int) x=some (xs.set i x):=by
 unfold gV;rw [ad ⟨iP i,by omega⟩];rfl
theorem fq {α:Type} {xs ys:List α} (h:xs.length+ys.length≤1099511627776):app xs ys=some (xs++ys):=by
 unfold app far;rw [ad h]
theorem mS {α:Type} {xs:List α} {i j:Nat} (h:i≤j) (h2:j≤xs.length):slc xs i j=some ((xs.drop i).take (j - i)):=by
 unfold slc;rw [ad (by omega)]
 congr 2
 omega
theorem jX (x y:Int):iY x y=max x y:=by unfold iY; split <;> omega
theorem iA (x y:Int):gH x y=min x y:=by unfold gH; split <;> omega
theorem eE {σ τ:Type} {step:σ→Option (σ ⊕ τ)} {n:Nat} (Inv:Nat→σ→Prop) (post:τ→Prop)
  (h:∀i s,i < n→Inv i s→(∃s',step s=some (.inl s')∧Inv (i+1) s')∨∃t,step s=some (.inr t)∧post t)
  (hend:∀s,Inv n s→∃t,step s=some (.inr t)∧post t) {fuel:Nat} {s:σ} (h0:Inv 0 s) (hf:n < fuel):∃t,aU fuel step s=some t∧post t:=by
 have key:∀fuel i s,i≤n→n - i < fuel→Inv i s→∃t,aU fuel step s=some t∧post t:=by
  intro fuel
  induction fuel with
  | zero=>intro i s _ hm; omega
  | succ k ih=>
   intro i s hi hm hs;rcases aN i n with hlt | hge
   ·rcases h i s hlt hs with ⟨s',h1,h2⟩ | ⟨t,h1,h2⟩
    ·obtain ⟨t,h4,h5⟩:=ih (i+1) s' hlt (by omega) h2;exact ⟨t,by simp [aU,h1,h4],h5⟩
    ·exact ⟨t,by simp [aU,h1],h2⟩
   ·obtain rfl:i=n:=by omega
    obtain ⟨t,h1,h2⟩:=hend s hs;exact ⟨t,by simp [aU,h1],h2⟩
 exact key fuel 0 s (aG _) (by omega) h0
theorem eX {σ τ β:Type} {step:σ→Option (σ ⊕ τ)} {n:Nat} (Inv:Nat→σ→Prop) (post:τ→Prop) {fuel:Nat} {s:σ} {k:τ→Option β} {r:Option β}
  (h:∀i s,i < n→Inv i s→(∃s',step s=some (.inl s')∧Inv (i+1) s')∨∃t,step s=some (.inr t)∧post t)
  (hend:∀s,Inv n s→∃t,step s=some (.inr t)∧post t) (h0:Inv 0 s) (hf:n < fuel) (hk:∀t,post t→k t=r):(aU fuel step s).bind k=r:=by
 obtain ⟨t,h1,h2⟩:=eE Inv post h hend h0 hf;rw [h1];exact hk t h2
theorem fV {σ τ β:Type} {step:σ→Option (σ ⊕ τ)} {n:Nat} (Inv:Nat→σ→Prop) (post:τ→Prop) {fuel:Nat} {s:σ} {k:τ→Option β} {p:β→Prop}
  (h:∀i s,i < n→Inv i s→(∃s',step s=some (.inl s')∧Inv (i+1) s')∨∃t,step s=some (.inr t)∧post t)
  (hend:∀s,Inv n s→∃t,step s=some (.inr t)∧post t) (h0:Inv 0 s) (hf:n < fuel) (hk:∀t,post t→∃r,k t=some r∧p r):∃r,(aU fuel step s).bind k=some r∧p r:=by
 obtain ⟨t,h1,h2⟩:=eE Inv post h hend h0 hf;rw [h1];exact hk t h2
theorem ci {i n:Nat} (h:i < n) (hn:n≤9223372036854775807):w64 ((i:Int)+1)=((i+1:Nat):Int):=by
 rw [ax (by omega)];simp
theorem dlt {i n:Nat} (h:i < n):decide ((i:Int) < (n:Int))=true:=by simp; exact h
theorem dnl (n:Nat):decide ((n:Int) < (n:Int))=false:=by simp
end Go.Lt
namespace Go.Proofs.Ytjghgpnafaoojaa
open Go Go.Lt
set_option maxRecDepth 10000
set_option linter.unusedVariables false
attribute [local irreducible] W WL AC
open Try
variable {c0:Cx} {G:Gm} {F:List En} {sg:Sto} {v1 v2 v3 v4 v5 v6 v7 v8 v9 v10 v11 v12 v13 v14 v15 v16 v17 v18 v19 v20 v21 v22 v23 v24 v25 v26 v27 v28 v29 v30 v31 v32 v33 v34 v35 v36 v37 v38 v39 v40 v41 v42 v43 v44 v45 v46 v47 v48 v49 v50 v51 v52 v53 v54 v55 v56 v57 v58 v59 v60:Value}
def bL:Option (List (Int×Int)):=
 some ([(13,13)]:List (Int×Int))
abbrev eC:= @Try.underlying21
abbrev kh:= @Try.underlying22
abbrev u_3:= @Try.underlying3
abbrev aL:= @Try.underlying33
abbrev jy:= @Try.underlying38
abbrev kg:= @Try.underlying45
abbrev kP:= @Try.underlying47
abbrev cp:= @Try.underlying53
abbrev gU:= @Try.underlying57
abbrev lU:= @Try.underlying63
abbrev lT:= @Try.underlying64
abbrev jx:= @Try.underlying65
abbrev ik:= @Try.underlying67
abbrev kf:= @Try.underlying73
abbrev ke:= @Try.underlying75
theorem ey (d:Own c0 G F) {r:List (Int×Int)} (H:bL=some r): Calls prog 44 #[] c0.w (ay c0 fun c v=>∃a b,Own c G (es true ah a 88 b r :: F)∧v=a∧OA ah c a b r):=by
 unfold bL at H;refine en func44 rfl rfl (sr (va (Y) (wln (sr (va (III 13 13) (me (sl ah 88 [[I 13,I 13]] ([(13,13)]:List (Int×Int)) d ⟨rfl,trivial⟩) ?_))))));rintro v5 f i ⟨h,e,g⟩;refine va (v5) (wln (W.ret ?_));obtain rfl:=si H;exact r1 (qq f ⟨v5,h,e,rfl,g⟩)
def bK:Option (List (Int×Int)):=
 some ([(10,10)]:List (Int×Int))
theorem ew (d:Own c0 G F) {r:List (Int×Int)} (H:bK=some r): Calls prog 45 #[] c0.w (ay c0 fun c v=>∃a b,Own c G (es true ah a 88 b r :: F)∧v=a∧OA ah c a b r):=by
 unfold bK at H;refine en func45 rfl rfl (sr (va (Y) (wln (sr (va (III 10 10) (me (sl ah 88 [[I 10,I 10]] ([(10,10)]:List (Int×Int)) d ⟨rfl,trivial⟩) ?_))))));rintro v5 f i ⟨h,e,g⟩;refine va (v5) (wln (W.ret ?_));obtain rfl:=si H;exact r1 (qq f ⟨v5,h,e,rfl,g⟩)
def bJ:Option (List (Int×Int)):=
 some ([(0,9),(11,12),(14,31),(127,159),(173,173),(1564,1564),(6158,6158),(8203,8203),(8206,8207),(8232,8238),(8288,8303),(65279,65279),(65520,65531),(917504,917535),(917632,917759),(918000,921599)]:List (Int×Int))
theorem eu (d:Own c0 G F) {r:List (Int×Int)} (H:bJ=some r): Calls prog 46 #[] c0.w (ay c0 fun c v=>∃a b,Own c G (es true ah a 88 b r :: F)∧v=a∧OA ah c a b r):=by
 unfold bJ at H;refine en func46 rfl rfl (sr (va (Y) (wln (sr (va (III 0 9) (va (III 11 12) (va (III 14 31) (va (III 127 159) (va (III 173 173) (va (III 1564 1564) (va (III 6158 6158) (va (III 8203 8203) (va (III 8206 8207) (va (III 8232 8238) (va (III 8288 8303) (va (III 65279 65279) (va (III 65520 65531) (va (III 917504 917535) (va (III 917632 917759) (va (III 918000 921599) (me (sl ah 88 [[I 0,I 9],[I 11,I 12],[I 14,I 31],[I 127,I 159],[I 173,I 173],[I 1564,I 1564],[I 6158,I 6158],[I 8203,I 8203],[I 8206,I 8207],[I 8232,I 8238],[I 8288,I 8303],[I 65279,I 65279],[I 65520,I 65531],[I 917504,I 917535],[I 917632,I 917759],[I 918000,I 921599]] ([(0,9),(11,12),(14,31),(127,159),(173,173),(1564,1564),(6158,6158),(8203,8203),(8206,8207),(8232,8238),(8288,8303),(65279,65279),(65520,65531),(917504,917535),(917632,917759),(918000,921599)]:List (Int×Int)) d ⟨rfl,rfl,rfl,rfl,rfl,rfl,rfl,rfl,rfl,rfl,rfl,rfl,rfl,rfl,rfl,rfl,trivial⟩) ?_)))))))))))))))))))));rintro v5 f i ⟨h,e,g⟩;refine va (v5) (wln (W.ret ?_));obtain rfl:=si H;exact r1 (qq f ⟨v5,h,e,rfl,g⟩)
def be:List (Int×Int):=[(768,879),(1155,1161),(1425,1469),(1471,1471),(1473,1474),(1476,1477),(1479,1479),(1552,1562),(1611,1631),(1648,1648),(1750,1756),(1759,1764),(1767,1768),(1770,1773),(1809,1809),(1840,1866),(1958,1968),(2027,2035),(2070,2073),(2075,2083),(2259,2273),(2275,2306),(2362,2362),(2364,2364),(2369,2376),(2381,2381),(2385,2391),(2402,2403),(2433,2433),(2492,2492),(2494,2494),(2497,2500),(2509,2509),(2519,2519),(2530,2531),(2561,2562),(2620,2620),(2625,2626),(2631,2632),(2635,2637),(2748,2748),(2753,2757),(2765,2765),(2876,2876),(2878,2879),(2881,2884),(2893,2893),(2902,2903),(3132,3132),(3134,3136),(3142,3144),(3146,3149),(3276,3277),(3390,3390),(3393,3396),(3405,3405),(3633,3633),(3636,3642),(3655,3662),(3761,3761),(3764,3772),(3864,3865),(3953,3966),(4957,4959),(6832,6862),(7616,7679),(8204,8204),(8400,8432),(12330,12335),(12441,12442),(42607,42610),(64286,64286),(65024,65039),(65056,65071),(127995,127999),(917536,917631),(917760,917999)]
def bI:Option (List (Int×Int)):=
 some be
theorem er (d:Own c0 G F) {r:List (Int×Int)} (H:bI=some r): Calls prog 47 #[] c0.w (ay c0 fun c v=>∃a b,Own c G (es true ah a 88 b r :: F)∧v=a∧OA ah c a b r):=by
 unfold bI at H;refine en func47 rfl rfl (sr (va (Y) (wln (sr (va (III 768 879) (va (III 1155 1161) (va (III 1425 1469) (va (III 1471 1471) (va (III 1473 1474) (va (III 1476 1477) (va (III 1479 1479) (va (III 1552 1562) (va (III 1611 1631) (va (III 1648 1648) (va (III 1750 1756) (va (III 1759 1764) (va (III 1767 1768) (va (III 1770 1773) (va (III 1809 1809) (va (III 1840 1866) (va (III 1958 1968) (va (III 2027 2035) (va (III 2070 2073) (va (III 2075 2083) (va (III 2259 2273) (va (III 2275 2306) (va (III 2362 2362) (va (III 2364 2364) (va (III 2369 2376) (va (III 2381 2381) (va (III 2385 2391) (va (III 2402 2403) (va (III 2433 2433) (va (III 2492 2492) (va (III 2494 2494) (va (III 2497 2500) (va (III 2509 2509) (va (III 2519 2519) (va (III 2530 2531) (va (III 2561 2562) (va (III 2620 2620) (va (III 2625 2626) (va (III 2631 2632) (va (III 2635 2637) (va (III 2748 2748) (va (III 2753 2757) (va (III 2765 2765) (va (III 2876 2876) (va (III 2878 2879) (va (III 2881 2884) (va (III 2893 2893) (va (III 2902 2903) (va (III 3132 3132) (va (III 3134 3136) (va (III 3142 3144) (va (III 3146 3149) (va (III 3276 3277) (va (III 3390 3390) (va (III 3393 3396) (va (III 3405 3405) (va (III 3633 3633) (va (III 3636 3642) (va (III 3655 3662) (va (III 3761 3761) (va (III 3764 3772) (va (III 3864 3865) (va (III 3953 3966) (va (III 4957 4959) (va (III 6832 6862) (va (III 7616 7679) (va (III 8204 8204) (va (III 8400 8432) (va (III 12330 12335) (va (III 12441 12442) (va (III 42607 42610) (va (III 64286 64286) (va (III 65024 65039) (va (III 65056 65071) (va (III 127995 127999) (va (III 917536 917631) (va (III 917760 917999) (me (Own.sl (R:=ah) (E:=88) (ls:=be.map (fun x=>[I x.1,I x.2])) (vs:=(be.map (fun x=>[I x.1,I x.2])).flatten) (xs:=be) true d (au _) rfl (dJ.map _ (fun _=>rfl) _) (by kernel_rfl) (by kernel_rfl)) ?_))))))))))))))))))))))))))))))))))))))))))))))))))))))))))))))))))))))))))))))))));rintro v5 f i ⟨h,e,g⟩;refine va (v5) (wln (W.ret ?_));obtain rfl:=si H;exact r1 (qq f ⟨v5,h,e,rfl,g⟩)
def bH:Option (List (Int×Int)):=
 some ([(8205,8205)]:List (Int×Int))
theorem eq (d:Own c0 G F) {r:List (Int×Int)} (H:bH=some r): Calls prog 48 #[] c0.w (ay c0 fun c v=>∃a b,Own c G (es true ah a 88 b r :: F)∧v=a∧OA ah c a b r):=by
 unfold bH at H;refine en func48 rfl rfl (sr (va (Y) (wln (sr (va (III 8205 8205) (me (sl ah 88 [[I 8205,I 8205]] ([(8205,8205)]:List (Int×Int)) d ⟨rfl,trivial⟩) ?_))))));rintro v5 f i ⟨h,e,g⟩;refine va (v5) (wln (W.ret ?_));obtain rfl:=si H;exact r1 (qq f ⟨v5,h,e,rfl,g⟩)
def bG:Option (List (Int×Int)):=
 some ([(127462,127487)]:List (Int×Int))
theorem ep (d:Own c0 G F) {r:List (Int×Int)} (H:bG=some r): Calls prog 49 #[] c0.w (ay c0 fun c v=>∃a b,Own c G (es true ah a 88 b r :: F)∧v=a∧OA ah c a b r):=by
 unfold bG at H;refine en func49 rfl rfl (sr (va (Y) (wln (sr (va (III 127462 127487) (me (sl ah 88 [[I 127462,I 127487]] ([(127462,127487)]:List (Int×Int)) d ⟨rfl,trivial⟩) ?_))))));rintro v5 f i ⟨h,e,g⟩;refine va (v5) (wln (W.ret ?_));obtain rfl:=si H;exact r1 (qq f ⟨v5,h,e,rfl,g⟩)
def bF:Option (List (Int×Int)):=
 some ([(1536,1541),(1757,1757),(1807,1807),(2192,2193),(2274,2274),(3406,3406),(69821,69821),(69837,69837)]:List (Int×Int))
theorem eo (d:Own c0 G F) {r:List (Int×Int)} (H:bF=some r): Calls prog 50 #[] c0.w (ay c0 fun c v=>∃a b,Own c G (es true ah a 88 b r :: F)∧v=a∧OA ah c a b r):=by
 unfold bF at H;refine en func50 rfl rfl (sr (va (Y) (wln (sr (va (III 1536 1541) (va (III 1757 1757) (va (III 1807 1807) (va (III 2192 2193) (va (III 2274 2274) (va (III 3406 3406) (va (III 69821 69821) (va (III 69837 69837) (me (sl ah 88 [[I 1536,I 1541],[I 1757,I 1757],[I 1807,I 1807],[I 2192,I 2193],[I 2274,I 2274],[I 3406,I 3406],[I 69821,I 69821],[I 69837,I 69837]] ([(1536,1541),(1757,1757),(1807,1807),(2192,2193),(2274,2274),(3406,3406),(69821,69821),(69837,69837)]:List (Int×Int)) d ⟨rfl,rfl,rfl,rfl,rfl,rfl,rfl,rfl,trivial⟩) ?_)))))))))))));rintro v5 f i ⟨h,e,g⟩;refine va (v5) (wln (W.ret ?_));obtain rfl:=si H;exact r1 (qq f ⟨v5,h,e,rfl,g⟩)
def bd:List (Int×Int):=[(2307,2307),(2363,2363),(2366,2368),(2377,2380),(2382,2383),(2434,2435),(2495,2496),(2503,2504),(2507,2508),(2563,2563),(2622,2624),(2691,2691),(2750,2752),(2761,2761),(2818,2819),(2880,2880),(2887,2888),(3073,3075),(3137,3140),(3330,3331),(3391,3392),(3398,3400),(3635,3635),(3763,3763),(3902,3903),(4155,4156)]
def bE:Option (List (Int×Int)):=
 some bd
theorem em (d:Own c0 G F) {r:List (Int×Int)} (H:bE=some r): Calls prog 51 #[] c0.w (ay c0 fun c v=>∃a b,Own c G (es true ah a 88 b r :: F)∧v=a∧OA ah c a b r):=by
 unfold bE at H;refine en func51 rfl rfl (sr (va (Y) (wln (sr (va (III 2307 2307) (va (III 2363 2363) (va (III 2366 2368) (va (III 2377 2380) (va (III 2382 2383) (va (III 2434 2435) (va (III 2495 2496) (va (III 2503 2504) (va (III 2507 2508) (va (III 2563 2563) (va (III 2622 2624) (va (III 2691 2691) (va (III 2750 2752) (va (III 2761 2761) (va (III 2818 2819) (va (III 2880 2880) (va (III 2887 2888) (va (III 3073 3075) (va (III 3137 3140) (va (III 3330 3331) (va (III 3391 3392) (va (III 3398 3400) (va (III 3635 3635) (va (III 3763 3763) (va (III 3902 3903) (va (III 4155 4156) (me (Own.sl (R:=ah) (E:=88) (ls:=bd.map (fun x=>[I x.1,I x.2])) (vs:=(bd.map (fun x=>[I x.1,I x.2])).flatten) (xs:=bd) true d (au _) rfl (dJ.map _ (fun _=>rfl) _) (by kernel_rfl) (by kernel_rfl)) ?_)))))))))))))))))))))))))))))));rintro v5 f i ⟨h,e,g⟩;refine va (v5) (wln (W.ret ?_));obtain rfl:=si H;exact r1 (qq f ⟨v5,h,e,rfl,g⟩)
def aJ (p0:List (Int×Int)) (p1:Int):Option (Bool):=
 (aU (σ:=Int) (τ:=Bool ⊕ Unit) (((p0.length:Int) - 0).toNat+1) (fun b=>
 if (decide (b < (p0.length:Int)))=true then
 (idx p0 b).bind fun d=>
 (cW (decide ((w64 p1)≥d.1)) ((idx p0 b).bind fun e=>
 some (decide ((w64 p1)≤e.2)))).bind fun c=>
 if c=true then
 some (.inr (.inl true))
 else
 some (.inl ((w64 (b+1))))
 else
 some (.inr (.inr ()))) (0)).bind fun a=>
 match a with
 | .inl a=>
 some a
 | .inr a=>
 some false
theorem cc (O0:Own c0 G F) (A:List (Int×Int)) (b:Int) {r:Bool} (g:Sl ah c0 v1 A) (H:aJ A b=some r): Calls prog 52 #[v1,J b] c0.w (ay c0 fun c v=>Own c G (F)∧v=B r):=by
 unfold aJ at H;refine en func52 rfl rfl (sr (va (B false) (wln (W.seq (sr (va (I 0) (wln (W.block (bn H fun h h3 u=>lp h3 (fun a=>Jn c0 fun c l=>Own c G (F)∧l= [(0,v1),(1,J b),(5,I a)]) (fun t=>match t with | .inl E=>(fun g0 ex e w=>ex= .ret∧(Jn c0 fun c l=>Own c G (F)∧l= [(4,B g0)]) e w) E | .inr E=>(fun l0 ex e w=>ex= .exit 0∧(Jn c0 fun c l=>Own c G (F)∧l= []) e w) E) ?_ ?_ ?_)))))))))
 ·clear u h3;intro a v0 S h0 H;revert S h0;rintro z D ⟨k,g6,_,rfl,l5,rfl,x,rfl⟩;refine W.seq (sr (va (I a) (va (v1) (vx (ln 3 kf g.m) (va (B (decide (a < (A.length:Int)))) (wln (cn H (fun U H=>?_) (fun U H=>?_))))))))
  ·refine W.skip (nrm (W.seq (W.block (W.seq (bn H fun i p H=>bn H fun y q H=>W.join (Jn k fun c l=>Own c G (F)∧l= [(0,v1),(1,J b),(5,I a),(29,B y)]) ?_ ?_)))))
   ·clear H;refine W.region (va (J b) (va (I (w64 b)) (va (v1) (va (I a) ?_))));obtain ⟨j0,X,e0⟩:=Sl.at (g.mono l5) (aH p);obtain rfl:=X;refine vx (ix kf g.m p) (va (Qo (sb v1) (so v1+a.toNat * 2)) (vx (l1 u_3 (e0 0 _ rfl)) (va (B (decide ((w64 b)≥i.1))) ?_)));rcases bo (decide ((w64 b)≥i.1)) with d | d
    ·have f:=anT d q;refine vb d (wa (J b) (wa (I (w64 b)) (wa (v1) (wa (I a) (wn (bn f fun j s f=>?_))))));obtain ⟨k0,Z,f0⟩:=Sl.at (g.mono l5) (aH s);obtain rfl:=Z;refine vx (ix kf g.m s) (wa (Qo (sb v1) (so v1+a.toNat * 2+1)) (wn (vx (l1 u_3 (f0 1 _ rfl)) (wa (B (decide ((w64 b)≤j.2))) ?_))));obtain rfl:=si f;exact va (B (decide ((w64 b)≤j.2))) (wln (jn k ⟨x,rfl⟩))
    obtain rfl:=anF d q;exact vb d (pz (pz (pz (pz (va (B false) (wln (jn k ⟨x,rfl⟩)))))))
   rintro z D ⟨o,m0,_,rfl,s0,rfl,n,rfl⟩;refine nrm (cn H (fun a0 H=>?_) (fun a0 H=>?_))
   ·refine sr (va (B true) (wln (W.ret (bkr (thr ?_)))));obtain rfl:=si H;exact ⟨_,rfl,⟨rfl,jn o ⟨n,rfl⟩⟩⟩
   refine W.skip (bkn (nrm (W.region (va (I a) (vv (I (w64 (a+1))) (WL.nil ?_))))));obtain rfl:=si H;exact ⟨_,rfl,jn o ⟨n,rfl⟩⟩
  refine W.exit (thx ?_);obtain rfl:=si H;exact ⟨_,rfl,rfl,jn k ⟨x,rfl⟩⟩
 ·exact jn c0 ⟨O0,rfl⟩
 rcases h with h | h
 ·intro T; revert T;rintro _ z D ⟨rfl,P,o0,_,rfl,t0,rfl,M,rfl⟩;refine bkr (thr ?_);obtain rfl:=si u;exact r1 (qq P ⟨M,rfl⟩)
 rintro _ z D ⟨rfl,R,q0,_,rfl,u0,rfl,N,rfl⟩;refine bke (nrm (sr (va (B false) (wln (W.ret ?_)))));obtain rfl:=si u;exact r1 (qq R ⟨N,rfl⟩)
def aF (p0:Int):Option (Int×Int×Int):=
 (orE (decide ((w64 p0) < 44032)) (some (decide ((w64 p0) > 55203)))).bind fun e=>
 if e=true then
 some (0,0,0)
 else
 (aU (σ:=Int×Int) (τ:=(Int×Int×Int) ⊕ Unit) (((4370:Int) - 4352).toNat+2) (fun d=>
 if (decide (d.2≤4370))=true then
 (aU (σ:=Int×Int) (τ:=(Int×Int×Int) ⊕ Int) (((4469:Int) - 4449).toNat+2) (fun a=>
 if (decide (a.2≤4469))=true then
 if (decide ((w64 p0) < (w64 (a.1+28))))=true then
 (if ((w64 ((w64 (4519+(w64 p0))) - a.1))==4519)=true then
 some (0)
 else
 some ((w64 ((w64 (4519+(w64 p0))) - a.1)))).bind fun f=>
 some (.inr (.inl (d.2,a.2,f)))
 else
 some (.inl ((w64 (a.1+28)),(w64 (a.2+1))))
 else
 some (.inr (.inr (a.1)))) (d.1,4449)).bind fun b=>
 match b with
 | .inl b=>
 some (.inr (.inl b))
 | .inr b=>
 some (.inl (b,(w64 (d.2+1))))
 else
 some (.inr (.inr ()))) (44032,4352)).bind fun c=>
 match c with
 | .inl c=>
 some c
 | .inr c=>
 some (0,0,0)
theorem ez (T:Own c0 G F) (d:Int) {r:Int×Int×Int} (H:aF d=some r): Calls prog 73 #[J d] c0.w (ay c0 fun c v=>Own c G (F)∧v= .tuple #[I r.1,I r.2.1,I r.2.2]):=by
 unfold aF at H;refine en func73 rfl rfl (sr (vv (I 0) (va (I 0) (wln (sr (va (J d) (vv (I (w64 d)) (wln (W.seq (W.seq (bn H fun R h1 H=>W.join (Jn c0 fun c l=>Own c G (F)∧l= [(5,I (w64 d)),(17,B R)]) ?_ ?_)))))))))))
 ·clear H;refine W.region (va (I (w64 d)) (va (B (decide ((w64 d) < 44032))) ?_));rcases bo (decide ((w64 d) < 44032)) with A | A
  ·obtain rfl:=orT A h1;exact vb A (pz (va (B true) (wln (jn c0 ⟨T,rfl⟩))))
  have H3:=orF A h1;refine vb A (wa (I (w64 d)) (wa (B (decide ((w64 d) > 55203))) ?_));obtain rfl:=si H3;exact va (B (decide ((w64 d) > 55203))) (wln (jn c0 ⟨T,rfl⟩))
 rintro j n ⟨x,g5,_,rfl,l4,rfl,O6,rfl⟩;refine nrm (cn H (fun k0 H=>?_) (fun k0 H=>?_))
 ·refine sr (vv (I 0) (va (I 0) (wln (W.ret (thr ?_)))));obtain rfl:=si H;exact r3 (qq x ⟨O6,rfl⟩)
 refine W.skip (nrm (sr (va (I 44032) (wln (W.seq (sr (va (I 4352) (wln (W.block (bn H fun k N s=>lp N (fun b=>Jn x fun c l=>Own c G (F)∧l= [(5,I (w64 d)),(6,I b.1),(7,I b.2)]) (fun t=>match t with | .inl o=>(fun f ex e w=>ex= .ret∧(Jn x fun c l=>Own c G (F)∧l= [(2,I f.1),(3,I f.2.1),(4,I f.2.2)]) e w) o | .inr o=>(fun t0 ex e w=>ex= .exit 0∧(Jn x fun c l=>Own c G (F)∧l= []) e w) o) ?_ ?_ ?_))))))))))
 ·clear s N;intro b s0 y D H;revert y D;rintro j n ⟨h,v0,_,rfl,c1,rfl,M,rfl⟩;refine W.seq (sr (va (I b.2) (va (B (decide (b.2≤4370))) (wln (cn H (fun l0 H=>?_) (fun l0 H=>?_))))))
  ·refine W.skip (nrm (W.seq (W.block (sr (va (I 4449) (wln (W.block (bn H fun m P u=>lp P (fun a=>Jn h fun c l=>Own c G (F)∧l= [(5,I (w64 d)),(6,I a.1),(7,I b.2),(8,I a.2)]) (fun t=>match t with | .inl o=>(fun f ex e w=>ex= .ret∧(Jn h fun c l=>Own c G (F)∧l= [(2,I f.1),(3,I f.2.1),(4,I f.2.2)]) e w) o | .inr o=>(fun E ex e w=>ex= .exit 2∧(Jn h fun c l=>Own c G (F)∧l= [(5,I (w64 d)),(6,I E),(7,I b.2)]) e w) o) ?_ ?_ ?_))))))))
   ·clear u P;intro a s0 y D H;revert y D;rintro j n ⟨i,w0,_,rfl,d1,rfl,q,rfl⟩;refine W.seq (sr (va (I a.2) (va (B (decide (a.2≤4469))) (wln (cn H (fun m0 H=>?_) (fun m0 H=>?_))))))
    ·refine W.skip (nrm (W.seq (W.block (W.seq (sr (va (I (w64 d)) (va (I a.1) (va (I (w64 (a.1+28))) (va (B (decide ((w64 d) < (w64 (a.1+28))))) (wln (cn H (fun o0 H=>?_) (fun o0 H=>?_))))))))))))
     ·refine sr (va (I (w64 d)) (va (I (w64 (4519+(w64 d)))) (va (I a.1) (vv (I (w64 ((w64 (4519+(w64 d))) - a.1))) (wln (bn H fun p g S=>W.seqJ (Jn i fun c l=>Own c G (F)∧l= [(7,I b.2),(8,I a.2),(9,I p)]) ?_ ?_))))))
      ·refine sr (va (I (w64 ((w64 (4519+(w64 d))) - a.1))) (va (B ((w64 ((w64 (4519+(w64 d))) - a.1))==4519)) (wln (cn g (fun q0 g=>?_) (fun q0 g=>?_)))))
       ·refine W.region (va (I 0) (wln ?_));obtain rfl:=si g;exact jn i ⟨q,rfl⟩
       refine W.skip (nrm ?_);obtain rfl:=si g;exact jn i ⟨q,rfl⟩
      rintro j n ⟨e0,x0,_,rfl,e1,rfl,U,rfl⟩;refine sr (va (I b.2) (va (I a.2) (va (I p) (va (I b.2) (va (I a.2) (va (I p) (wln (W.ret (thr (bkr (thr ?_)))))))))));obtain rfl:=si S;exact ⟨_,rfl,⟨rfl,jn e0 ⟨U,rfl⟩⟩⟩
     refine W.skip (nrm (W.region (va (I a.1) (vv (I (w64 (a.1+28))) (WL.nil (bkn (nrm (W.region (va (I a.2) (vv (I (w64 (a.2+1))) (WL.nil ?_)))))))))));obtain rfl:=si H;exact ⟨_,rfl,jn i ⟨q,rfl⟩⟩
    refine W.exit (thx ?_);obtain rfl:=si H;exact ⟨_,rfl,rfl,jn i ⟨q,rfl⟩⟩
   ·exact jn h ⟨M,rfl⟩
   rcases m with m | m
   ·intro z; revert z;rintro _ j n ⟨rfl,f0,y0,_,rfl,f1,rfl,X,rfl⟩;refine bkr (bkr (thr ?_));obtain rfl:=si u;exact ⟨_,rfl,⟨rfl,jn f0 ⟨X,rfl⟩⟩⟩
   rintro _ j n ⟨rfl,g0,z0,_,rfl,g1,rfl,Z,rfl⟩;refine bke (bkn (nrm (W.region (va (I b.2) (vv (I (w64 (b.2+1))) (WL.nil ?_))))));obtain rfl:=si u;exact ⟨_,rfl,jn g0 ⟨Z,rfl⟩⟩
  refine W.exit (thx ?_);obtain rfl:=si H;exact ⟨_,rfl,rfl,jn h ⟨M,rfl⟩⟩
 ·exact jn x ⟨O6,rfl⟩
 rcases k with k | k
 ·intro z; revert z;rintro _ j n ⟨rfl,h0,a1,_,rfl,i1,rfl,a0,rfl⟩;refine bkr (thr ?_);obtain rfl:=si s;exact r3 (qq h0 ⟨a0,rfl⟩)
 rintro _ j n ⟨rfl,i0,b1,_,rfl,j1,rfl,b0,rfl⟩;refine bke (nrm (sr (vv (I 0) (va (I 0) (wln (W.ret ?_))))));obtain rfl:=si s;exact r3 (qq i0 ⟨b0,rfl⟩)
def aK (p0:Int):Option (Int):=
 (cW (decide ((w64 p0)≥4352)) (some (decide ((w64 p0)≤4447)))).bind fun j=>
 (orE j ((cW (decide ((w64 p0)≥43360)) (some (decide ((w64 p0)≤43388)))).bind fun c=>
 some c)).bind fun b=>
 if b=true then
 some 9
 else
 (cW (decide ((w64 p0)≥4448)) (some (decide ((w64 p0)≤4519)))).bind fun d=>
 (orE d ((cW (decide ((w64 p0)≥55216)) (some (decide ((w64 p0)≤55238)))).bind fun f=>
 some f)).bind fun e=>
 if e=true then
 some 10
 else
 (cW (decide ((w64 p0)≥4520)) (some (decide ((w64 p0)≤4607)))).bind fun g=>
 (orE g ((cW (decide ((w64 p0)≥55243)) (some (decide ((w64 p0)≤55291)))).bind fun i=>
 some i)).bind fun h=>
 if h=true then
 some 11
 else
 (aF p0).bind fun a=>
 if (a.1==0)=true then
 some 0
 else
 if (a.2.2==0)=true then
 some 12
 else
 some 13
theorem eA (z:Own c0 G F) (a:Int) {r:Int} (H:aK a=some r): Calls prog 53 #[J a] c0.w (ay c0 fun c v=>Own c G (F)∧v=I r):=by
 unfold aK at H;refine en func53 rfl rfl (sr (va (I 0) (wln (sr (va (J a) (vv (I (w64 a)) (wln (W.seq (W.seq (bn H fun s1 h1 H=>bn H fun i0 h2 H=>W.join (Jn c0 fun c l=>Own c G (F)∧l= [(0,J a),(3,I (w64 a)),(22,B i0)]) ?_ ?_))))))))))
 ·clear H;refine W.region (va (I (w64 a)) (va (B (decide ((w64 a)≥4352))) ?_));rcases bo (decide ((w64 a)≥4352)) with M | M
  ·have H4:=anT M h1;refine vb M (wa (I (w64 a)) (wa (B (decide ((w64 a)≤4447))) ?_));obtain rfl:=si H4;refine va (B (decide ((w64 a)≤4447))) ?_;rcases bo (decide ((w64 a)≤4447)) with P | P
   ·obtain rfl:=orT P h2;exact vb P (pz (pz (pz (va (B true) (wln (jn c0 ⟨z,rfl⟩))))))
   have S:=orF P h2;refine vb P (wa (I (w64 a)) (wa (B (decide ((w64 a)≥43360))) (wn (bn S fun j0 h7 S=>?_))));rcases bo (decide ((w64 a)≥43360)) with R | R
   ·have H9:=anT R h7;refine vb R (wa (I (w64 a)) (wa (B (decide ((w64 a)≤43388))) (wn ?_)));obtain rfl:=si H9;refine va (B (decide ((w64 a)≤43388))) ?_;obtain rfl:=si S;exact va (B (decide ((w64 a)≤43388))) (wln (jn c0 ⟨z,rfl⟩))
   obtain rfl:=anF R h7;refine vb R (pz (wa (B false) ?_));obtain rfl:=si S;exact va (B false) (wln (jn c0 ⟨z,rfl⟩))
  obtain rfl:=anF M h1;refine vb M (pz (va (B false) ?_));have U:false=false:=rfl;have s:=orF U h2;refine vb U (wa (I (w64 a)) (wa (B (decide ((w64 a)≥43360))) (wn (bn s fun j0 X s=>?_))));rcases bo (decide ((w64 a)≥43360)) with h | h
  ·have s0:=anT h X;refine vb h (wa (I (w64 a)) (wa (B (decide ((w64 a)≤43388))) (wn ?_)));obtain rfl:=si s0;refine va (B (decide ((w64 a)≤43388))) ?_;obtain rfl:=si s;exact va (B (decide ((w64 a)≤43388))) (wln (jn c0 ⟨z,rfl⟩))
  obtain rfl:=anF h X;refine vb h (pz (wa (B false) ?_));obtain rfl:=si s;exact va (B false) (wln (jn c0 ⟨z,rfl⟩))
 rintro e_ w_ ⟨d,t1,_,rfl,w1,rfl,f,rfl⟩;refine nrm (cn H (fun c1 H=>?_) (fun c1 H=>?_))
 ·refine sr (va (I 9) (wln (W.ret (thr ?_))));obtain rfl:=si H;exact r1 (qq d ⟨f,rfl⟩)
 refine W.skip (nrm (W.seq (W.seq (bn H fun p1 Z H=>bn H fun k0 E H=>W.join (Jn d fun c l=>Own c G (F)∧l= [(0,J a),(3,I (w64 a)),(36,B k0)]) ?_ ?_))))
 ·clear H;refine W.region (va (I (w64 a)) (va (B (decide ((w64 a)≥4448))) ?_));rcases bo (decide ((w64 a)≥4448)) with i | i
  ·have t0:=anT i Z;refine vb i (wa (I (w64 a)) (wa (B (decide ((w64 a)≤4519))) ?_));obtain rfl:=si t0;refine va (B (decide ((w64 a)≤4519))) ?_;rcases bo (decide ((w64 a)≤4519)) with j | j
   ·obtain rfl:=orT j E;exact vb j (pz (pz (pz (va (B true) (wln (jn d ⟨f,rfl⟩))))))
   have t:=orF j E;refine vb j (wa (I (w64 a)) (wa (B (decide ((w64 a)≥55216))) (wn (bn t fun l0 a0 t=>?_))));rcases bo (decide ((w64 a)≥55216)) with k | k
   ·have u0:=anT k a0;refine vb k (wa (I (w64 a)) (wa (B (decide ((w64 a)≤55238))) (wn ?_)));obtain rfl:=si u0;refine va (B (decide ((w64 a)≤55238))) ?_;obtain rfl:=si t;exact va (B (decide ((w64 a)≤55238))) (wln (jn d ⟨f,rfl⟩))
   obtain rfl:=anF k a0;refine vb k (pz (wa (B false) ?_));obtain rfl:=si t;exact va (B false) (wln (jn d ⟨f,rfl⟩))
  obtain rfl:=anF i Z;refine vb i (pz (va (B false) ?_));have b0:false=false:=rfl;have u:=orF b0 E;refine vb b0 (wa (I (w64 a)) (wa (B (decide ((w64 a)≥55216))) (wn (bn u fun l0 d0 u=>?_))));rcases bo (decide ((w64 a)≥55216)) with m | m
  ·have v0:=anT m d0;refine vb m (wa (I (w64 a)) (wa (B (decide ((w64 a)≤55238))) (wn ?_)));obtain rfl:=si v0;refine va (B (decide ((w64 a)≤55238))) ?_;obtain rfl:=si u;exact va (B (decide ((w64 a)≤55238))) (wln (jn d ⟨f,rfl⟩))
  obtain rfl:=anF m d0;refine vb m (pz (wa (B false) ?_));obtain rfl:=si u;exact va (B false) (wln (jn d ⟨f,rfl⟩))
 rintro e_ w_ ⟨e,u1,_,rfl,x1,rfl,g,rfl⟩;refine nrm (cn H (fun d1 H=>?_) (fun d1 H=>?_))
 ·refine sr (va (I 10) (wln (W.ret (thr ?_))));obtain rfl:=si H;exact r1 (qq e ⟨g,rfl⟩)
 refine W.skip (nrm (W.seq (W.seq (bn H fun q1 e0 H=>bn H fun m0 N H=>W.join (Jn e fun c l=>Own c G (F)∧l= [(0,J a),(50,B m0)]) ?_ ?_))))
 ·clear H;refine W.region (va (I (w64 a)) (va (B (decide ((w64 a)≥4520))) ?_));rcases bo (decide ((w64 a)≥4520)) with n | n
  ·have w0:=anT n e0;refine vb n (wa (I (w64 a)) (wa (B (decide ((w64 a)≤4607))) ?_));obtain rfl:=si w0;refine va (B (decide ((w64 a)≤4607))) ?_;rcases bo (decide ((w64 a)≤4607)) with o | o
   ·obtain rfl:=orT o N;exact vb o (pz (pz (pz (va (B true) (wln (jn e ⟨g,rfl⟩))))))
   have x:=orF o N;refine vb o (wa (I (w64 a)) (wa (B (decide ((w64 a)≥55243))) (wn (bn x fun o0 f0 x=>?_))));rcases bo (decide ((w64 a)≥55243)) with p | p
   ·have x0:=anT p f0;refine vb p (wa (I (w64 a)) (wa (B (decide ((w64 a)≤55291))) (wn ?_)));obtain rfl:=si x0;refine va (B (decide ((w64 a)≤55291))) ?_;obtain rfl:=si x;exact va (B (decide ((w64 a)≤55291))) (wln (jn e ⟨g,rfl⟩))
   obtain rfl:=anF p f0;refine vb p (pz (wa (B false) ?_));obtain rfl:=si x;exact va (B false) (wln (jn e ⟨g,rfl⟩))
  obtain rfl:=anF n e0;refine vb n (pz (va (B false) ?_));have g0:false=false:=rfl;have y:=orF g0 N;refine vb g0 (wa (I (w64 a)) (wa (B (decide ((w64 a)≥55243))) (wn (bn y fun o0 h0 y=>?_))));rcases bo (decide ((w64 a)≥55243)) with q | q
  ·have y0:=anT q h0;refine vb q (wa (I (w64 a)) (wa (B (decide ((w64 a)≤55291))) (wn ?_)));obtain rfl:=si y0;refine va (B (decide ((w64 a)≤55291))) ?_;obtain rfl:=si y;exact va (B (decide ((w64 a)≤55291))) (wln (jn e ⟨g,rfl⟩))
  obtain rfl:=anF q h0;refine vb q (pz (wa (B false) ?_));obtain rfl:=si y;exact va (B false) (wln (jn e ⟨g,rfl⟩))
 rintro e_ w_ ⟨z0,v1,_,rfl,y1,rfl,T,rfl⟩;refine nrm (cn H (fun e1 H=>?_) (fun e1 H=>?_))
 ·refine sr (va (I 11) (wln (W.ret (thr ?_))));obtain rfl:=si H;exact r1 (qq z0 ⟨T,rfl⟩)
 refine W.skip (nrm (sr (va (J a) (bn H fun b f1 H=>cl (ez T a f1) ?_))));rintro b2 D z1 ⟨A,rfl⟩;refine va (.tuple #[I b.1,I b.2.1,I b.2.2]) (va (I b.1) (va (I b.2.1) (va (I b.2.2) (va (I b.1) (va (I b.2.1) (va (I b.2.2) (wln (W.seq (sr (va (I b.1) (va (B (b.1==0)) (wln (cn H (fun i1 H=>?_) (fun i1 H=>?_))))))))))))))
 ·refine sr (va (I 0) (wln (W.ret (thr ?_))));obtain rfl:=si H;exact r1 (qq D ⟨A,rfl⟩)
 refine W.skip (nrm (W.seq (sr (va (I b.2.2) (va (B (b.2.2==0)) (wln (cn H (fun j1 H=>?_) (fun j1 H=>?_))))))))
 ·refine sr (va (I 12) (wln (W.ret (thr ?_))));obtain rfl:=si H;exact r1 (qq D ⟨A,rfl⟩)
 refine W.skip (nrm (sr (va (I 13) (wln (W.ret ?_)))));obtain rfl:=si H;exact r1 (qq D ⟨A,rfl⟩)
def bu (p0:Int):Option (Int):=
 (bL).bind fun d=>
 (bK).bind fun e=>
 (bJ).bind fun f=>
 (bI).bind fun g=>
 (bH).bind fun h=>
 (bG).bind fun i=>
 (bF).bind fun j=>
 (bE).bind fun c=>
 (aU (σ:=Int) (τ:=Int ⊕ Unit) (((([d,e,f,g,h,i,j,c]:List (List (Int×Int))).length:Int) - 0).toNat+1) (fun b=>
 if (decide (b < (([d,e,f,g,h,i,j,c]:List (List (Int×Int))).length:Int)))=true then
 (idx ([d,e,f,g,h,i,j,c]:List (List (Int×Int))) b).bind fun k=>
 (aJ k p0).bind fun l=>
 if l=true then
 some (.inr (.inl (w64 (b+1))))
 else
 some (.inl ((w64 (b+1))))
 else
 some (.inr (.inr ()))) (0)).bind fun a=>
 match a with
 | .inl a=>
 some a
 | .inr a=>
 (aK p0).bind fun m=>
 some m
theorem fp (O0:Own c0 G F) (p0:Int) {r:Int} (H:bu p0=some r): Calls prog 22 #[J p0] c0.w (ay c0 fun c v=>Own c G (F)∧v=I r):=by
 unfold bu at H;refine en func22 rfl rfl (sr (va (I 0) (wln (sr (bn H fun x h1 H=>cl (ey O0 h1) ?_)))));rintro v2 c9 l9 ⟨_,u3,O6,rfl,h4⟩;refine bn H fun y x3 H=>cl (ew O6 x3) ?_;rintro v12 q5 q4 ⟨_,u1,g3,rfl,y3⟩;refine bn H fun z z3 H=>cl (eu g3 z3) ?_;rintro v22 r5 t1 ⟨_,v1,h3,rfl,a4⟩;refine bn H fun A b4 H=>cl (er h3 b4) ?_;rintro v32 s5 j1 ⟨_,w1,i3,rfl,c4⟩;refine bn H fun D d4 H=>cl (eq i3 d4) ?_;rintro v42 t5 b1 ⟨_,x1,j3,rfl,e4⟩;refine bn H fun E f4 H=>cl (ep j3 f4) ?_;rintro v52 u5 w0 ⟨_,y1,k3,rfl,g4⟩;refine bn H fun M i4 H=>cl (eo k3 i4) ?_;rintro c6 v5 u ⟨_,z1,l3,rfl,j4⟩;refine bn H fun h k4 H=>cl (em l3 k4) ?_;rintro d6 w5 k ⟨_,b2,m3,rfl,l4⟩;obtain ⟨x5,m4,n,n3,m1⟩:=m3.frz 7 rfl (h4.mono (q4.trans (t1.trans (j1.trans (b1.trans (w0.trans (u.trans k)))))));refine WL.gh m4 ?_;obtain ⟨y5,n4,o,o3,n1⟩:=n3.frz 6 rfl (y3.mono (t1.trans (j1.trans (b1.trans (w0.trans (u.trans (k.trans n)))))));refine WL.gh n4 ?_;obtain ⟨z5,o4,p,p3,p1⟩:=o3.frz 5 rfl (a4.mono (j1.trans (b1.trans (w0.trans (u.trans (k.trans (n.trans o)))))));refine WL.gh o4 ?_;obtain ⟨a6,p4,q,q3,q1⟩:=p3.frz 4 rfl (c4.mono (b1.trans (w0.trans (u.trans (k.trans (n.trans (o.trans p)))))));refine WL.gh p4 ?_;obtain ⟨b6,o2,s,s3,s1⟩:=q3.frz 3 rfl (e4.mono (w0.trans (u.trans (k.trans (n.trans (o.trans (p.trans q)))))));refine WL.gh o2 ?_;obtain ⟨z4,p2,b,c2,e1⟩:=s3.frz 2 rfl (g4.mono (u.trans (k.trans (n.trans (o.trans (p.trans (q.trans s)))))));refine WL.gh p2 ?_;obtain ⟨a5,q2,d,d2,f1⟩:=c2.frz 1 rfl (j4.mono (k.trans (n.trans (o.trans (p.trans (q.trans (s.trans b)))))));refine WL.gh q2 ?_;obtain ⟨b5,s2,f,e2,g1⟩:=d2.frz 0 rfl (l4.mono (n.trans (o.trans (p.trans (q.trans (s.trans (b.trans d)))))));refine WL.gh s2 ?_;obtain ⟨N,P,R,rfl⟩:=((m1.mono (o.trans (p.trans (q.trans (s.trans (b.trans (d.trans f)))))))).form;obtain ⟨S,T,U,rfl⟩:=((n1.mono (p.trans (q.trans (s.trans (b.trans (d.trans f))))))).form;obtain ⟨X,Z,a0,rfl⟩:=((p1.mono (q.trans (s.trans (b.trans (d.trans f)))))).form;obtain ⟨b0,d0,e0,rfl⟩:=((q1.mono (s.trans (b.trans (d.trans f))))).form;obtain ⟨f0,g0,h0,rfl⟩:=((s1.mono (b.trans (d.trans f)))).form;obtain ⟨i0,j0,k0,rfl⟩:=((e1.mono (d.trans f))).form;obtain ⟨l0,m0,o0,rfl⟩:=((f1.mono f)).form;obtain ⟨q0,s0,t0,rfl⟩:=(g1).form;refine me (sl (RL ah) 73 [[.slice N P R],[.slice S T U],[.slice X Z a0],[.slice b0 d0 e0],[.slice f0 g0 h0],[.slice i0 j0 k0],[.slice l0 m0 o0],[.slice q0 s0 t0]] ([x,y,z,A,D,E,M,h]:List (List (Int×Int))) e2 ⟨⟨(.slice N P R),rfl,m1.m⟩,⟨(.slice S T U),rfl,n1.m⟩,⟨(.slice X Z a0),rfl,p1.m⟩,⟨(.slice b0 d0 e0),rfl,q1.m⟩,⟨(.slice f0 g0 h0),rfl,s1.m⟩,⟨(.slice i0 j0 k0),rfl,e1.m⟩,⟨(.slice l0 m0 o0),rfl,f1.m⟩,⟨(.slice q0 s0 t0),rfl,g1⟩,trivial⟩) ?_;rintro g u0 i5 ⟨k1,f2,v0⟩;refine va (g) (wln (W.seq (sr (va (I 0) (wln (W.block (bn H fun a1 i1 i=>lp i1 (fun a=>Jn u0 fun c l=>Own c G (es true (RL ah) g 73 k1 ([x,y,z,A,D,E,M,h]:List (List (Int×Int))) :: es false ah (.slice q0 s0 t0) 88 b2 h :: es false ah (.slice l0 m0 o0) 88 z1 M :: es false ah (.slice i0 j0 k0) 88 y1 E :: es false ah (.slice f0 g0 h0) 88 x1 D :: es false ah (.slice b0 d0 e0) 88 w1 A :: es false ah (.slice X Z a0) 88 v1 z :: es false ah (.slice S T U) 88 u1 y :: es false ah (.slice N P R) 88 u3 x :: F)∧l= [(0,J p0),(3,g),(4,I a)]) (fun t=>match t with | .inl x_=>(fun r4 ex e w=>ex= .ret∧(Jn u0 fun c l=>Own c G (F)∧l= [(2,I r4)]) e w) x_ | .inr x_=>(fun w4 ex e w=>ex= .exit 0∧(Jn u0 fun c l=>Own c G (es true (RL ah) g 73 k1 ([x,y,z,A,D,E,M,h]:List (List (Int×Int))) :: es false ah (.slice q0 s0 t0) 88 b2 h :: es false ah (.slice l0 m0 o0) 88 z1 M :: es false ah (.slice i0 j0 k0) 88 y1 E :: es false ah (.slice f0 g0 h0) 88 x1 D :: es false ah (.slice b0 d0 e0) 88 w1 A :: es false ah (.slice X Z a0) 88 v1 z :: es false ah (.slice S T U) 88 u1 y :: es false ah (.slice N P R) 88 u3 x :: F)∧l= [(0,J p0)]) e w) x_) ?_ ?_ ?_)))))))
 ·clear i i1;intro a e6 v3 u4 H;revert v3 u4;rintro e_ w_ ⟨l2,d5,_,rfl,a3,rfl,y0,rfl⟩;refine W.seq (sr (va (I a) (va (g) (vx (lnO 3 ke v0.m) (va (B (decide (a < (([x,y,z,A,D,E,M,h]:List (List (Int×Int))).length:Int)))) (wln (cn H (fun t2 H=>?_) (fun t2 H=>?_))))))))
  ·refine W.skip (nrm (W.seq (W.block (sr (va (g) (va (I a) (bn H fun e3 z0 H=>vx (ixO ke v0.m z0) ?_)))))));obtain ⟨v4,u2,b3⟩:=OA.at (v0.mono a3) z0;obtain ⟨c3,rfl,w2⟩:=u2;refine vr c3 (rx (by kernel_rfl) (fF kf rfl (y0.on 0 rfl) (v0.m.blk z0) (at1 (j:=0) b3 rfl))) (va (J p0) (bn H fun p5 x2 H=>cl (cc y0 e3 p0 w2 x2) ?_));rintro n5 d1 j5 ⟨c1,rfl⟩;refine wln (cn H (fun y2 H=>?_) (fun y2 H=>?_))
   ·refine sr (va (I a) (vv (I (w64 (a+1))) (wln (W.ret (bkr (thr ?_))))));obtain rfl:=si H;refine ⟨_,rfl,⟨rfl,?_⟩⟩;have g2:=c1.sD 9 [];exact jn d1 ⟨g2,rfl⟩
   refine W.skip (bkn (nrm (W.region (va (I a) (vv (I (w64 (a+1))) (WL.nil ?_))))));obtain rfl:=si H;exact ⟨_,rfl,jn d1 ⟨c1,rfl⟩⟩
  refine W.exit (thx ?_);obtain rfl:=si H;exact ⟨_,rfl,rfl,jn l2 ⟨y0,rfl⟩⟩
 ·exact jn u0 ⟨f2,rfl⟩
 rcases a1 with a1 | a1
 ·intro w3; revert w3;rintro _ e_ w_ ⟨rfl,m2,e5,_,rfl,k5,rfl,h2,rfl⟩;refine bkr (thr ?_);obtain rfl:=si i;exact r1 (qq m2 ⟨h2,rfl⟩)
 rintro _ e_ w_ ⟨rfl,c5,f5,_,rfl,l5,rfl,i2,rfl⟩;refine bke (nrm (sr (va (J p0) (bn i fun f3 z2 i=>cl (eA i2 p0 z2) ?_))));rintro o5 n2 m5 ⟨j2,rfl⟩;refine va (I f3) (wln (W.ret ?_));obtain rfl:=si i;have k2:=j2.sD 9 [];exact r1 (qq n2 ⟨k2,rfl⟩)
def bf:List (Int×Int):=[(169,169),(174,174),(8252,8252),(8265,8265),(8482,8482),(8505,8505),(8596,8601),(8617,8618),(8986,8987),(9000,9000),(9096,9096),(9167,9167),(9193,9203),(9208,9210),(9410,9410),(9642,9643),(9654,9654),(9664,9664),(9723,9726),(9728,9733),(9735,9746),(9748,9861),(9872,9989),(9992,10002),(10004,10004),(10006,10006),(10013,10013),(10017,10017),(10024,10024),(10035,10036),(10052,10052),(10055,10055),(10060,10060),(10062,10062),(10067,10069),(10071,10071),(10083,10087),(10133,10135),(10145,10145),(10160,10160),(10175,10175),(10548,10549),(11013,11015),(11035,11036),(11088,11088),(11093,11093),(12336,12336),(12349,12349),(12951,12951),(12953,12953),(126976,127231),(127245,127247),(127279,127279),(127340,127345),(127358,127359),(127374,127374),(127377,127386),(127405,127461),(127489,127503),(127514,127514),(127535,127535),(127538,127546),(127548,127551),(127561,127994),(128000,128317),(128326,128591),(128640,128767),(128884,128895),(128981,129023),(129036,129039),(129096,129103),(129114,129119),(129160,129167),(129198,129279),(129292,129338),(129340,129349),(129351,129791),(130048,131069)]
def bN:Option (List (Int×Int)):=
 some bf
theorem eM (d:Own c0 G F) {r:List (Int×Int)} (H:bN=some r): Calls prog 54 #[] c0.w (ay c0 fun c v=>∃a b,Own c G (es true ah a 88 b r :: F)∧v=a∧OA ah c a b r):=by
 unfold bN at H;refine en func54 rfl rfl (sr (va (Y) (wln (sr (va (III 169 169) (va (III 174 174) (va (III 8252 8252) (va (III 8265 8265) (va (III 8482 8482) (va (III 8505 8505) (va (III 8596 8601) (va (III 8617 8618) (va (III 8986 8987) (va (III 9000 9000) (va (III 9096 9096) (va (III 9167 9167) (va (III 9193 9203) (va (III 9208 9210) (va (III 9410 9410) (va (III 9642 9643) (va (III 9654 9654) (va (III 9664 9664) (va (III 9723 9726) (va (III 9728 9733) (va (III 9735 9746) (va (III 9748 9861) (va (III 9872 9989) (va (III 9992 10002) (va (III 10004 10004) (va (III 10006 10006) (va (III 10013 10013) (va (III 10017 10017) (va (III 10024 10024) (va (III 10035 10036) (va (III 10052 10052) (va (III 10055 10055) (va (III 10060 10060) (va (III 10062 10062) (va (III 10067 10069) (va (III 10071 10071) (va (III 10083 10087) (va (III 10133 10135) (va (III 10145 10145) (va (III 10160 10160) (va (III 10175 10175) (va (III 10548 10549) (va (III 11013 11015) (va (III 11035 11036) (va (III 11088 11088) (va (III 11093 11093) (va (III 12336 12336) (va (III 12349 12349) (va (III 12951 12951) (va (III 12953 12953) (va (III 126976 127231) (va (III 127245 127247) (va (III 127279 127279) (va (III 127340 127345) (va (III 127358 127359) (va (III 127374 127374) (va (III 127377 127386) (va (III 127405 127461) (va (III 127489 127503) (va (III 127514 127514) (va (III 127535 127535) (va (III 127538 127546) (va (III 127548 127551) (va (III 127561 127994) (va (III 128000 128317) (va (III 128326 128591) (va (III 128640 128767) (va (III 128884 128895) (va (III 128981 129023) (va (III 129036 129039) (va (III 129096 129103) (va (III 129114 129119) (va (III 129160 129167) (va (III 129198 129279) (va (III 129292 129338) (va (III 129340 129349) (va (III 129351 129791) (va (III 130048 131069) (me (Own.sl (R:=ah) (E:=88) (ls:=bf.map (fun x=>[I x.1,I x.2])) (vs:=(bf.map (fun x=>[I x.1,I x.2])).flatten) (xs:=bf) true d (au _) rfl (dJ.map _ (fun _=>rfl) _) (by kernel_rfl) (by kernel_rfl)) ?_)))))))))))))))))))))))))))))))))))))))))))))))))))))))))))))))))))))))))))))))))));rintro v5 f i ⟨h,e,g⟩;refine va (v5) (wln (W.ret ?_));obtain rfl:=si H;exact r1 (qq f ⟨v5,h,e,rfl,g⟩)
def bt (p0:Int):Option (Bool):=
 (bN).bind fun a=>
 (aJ a p0).bind fun b=>
 some b
theorem fo (l:Own c0 G F) (a:Int) {r:Bool} (H:bt a=some r): Calls prog 23 #[J a] c0.w (ay c0 fun c v=>Own c G (F)∧v=B r):=by
 unfold bt at H;refine en func23 rfl rfl (sr (va (B false) (wln (sr (bn H fun j n H=>cl (eM l n) ?_)))));rintro v2 t u ⟨_,x,m,rfl,o⟩;refine va (J a) ?_;obtain ⟨p,h,q,b,g⟩:=m.frz 0 rfl o;refine WL.gh h (bn H fun k i H=>cl (cc b j a g i) ?_);rintro v21 f s ⟨d,rfl⟩;refine va (B k) (wln (W.ret ?_));obtain rfl:=si H;have e:=d.sD 1 [];exact r1 (qq f ⟨e,rfl⟩)
def bc:List (Int×Int):=[(2325,2361),(2392,2399),(2424,2431),(2453,2472),(2474,2480),(2482,2482),(2486,2489),(2524,2525),(2527,2527),(2544,2545),(2709,2728),(2730,2736),(2738,2739),(2741,2745),(2809,2809),(2837,2856),(2858,2864),(2866,2867),(2869,2873),(2908,2909),(2911,2911),(2929,2929),(3093,3112),(3114,3129),(3160,3162),(3349,3386)]
def bD:Option (List (Int×Int)):=
 some bc
theorem el (d:Own c0 G F) {r:List (Int×Int)} (H:bD=some r): Calls prog 55 #[] c0.w (ay c0 fun c v=>∃a b,Own c G (es true ah a 88 b r :: F)∧v=a∧OA ah c a b r):=by
 unfold bD at H;refine en func55 rfl rfl (sr (va (Y) (wln (sr (va (III 2325 2361) (va (III 2392 2399) (va (III 2424 2431) (va (III 2453 2472) (va (III 2474 2480) (va (III 2482 2482) (va (III 2486 2489) (va (III 2524 2525) (va (III 2527 2527) (va (III 2544 2545) (va (III 2709 2728) (va (III 2730 2736) (va (III 2738 2739) (va (III 2741 2745) (va (III 2809 2809) (va (III 2837 2856) (va (III 2858 2864) (va (III 2866 2867) (va (III 2869 2873) (va (III 2908 2909) (va (III 2911 2911) (va (III 2929 2929) (va (III 3093 3112) (va (III 3114 3129) (va (III 3160 3162) (va (III 3349 3386) (me (Own.sl (R:=ah) (E:=88) (ls:=bc.map (fun x=>[I x.1,I x.2])) (vs:=(bc.map (fun x=>[I x.1,I x.2])).flatten) (xs:=bc) true d (au _) rfl (dJ.map _ (fun _=>rfl) _) (by kernel_rfl) (by kernel_rfl)) ?_)))))))))))))))))))))))))))))));rintro v5 f i ⟨h,e,g⟩;refine va (v5) (wln (W.ret ?_));obtain rfl:=si H;exact r1 (qq f ⟨v5,h,e,rfl,g⟩)
def bC:Option (List (Int×Int)):=
 some ([(2381,2381),(2509,2509),(2765,2765),(2893,2893),(3149,3149),(3405,3405)]:List (Int×Int))
theorem ek (d:Own c0 G F) {r:List (Int×Int)} (H:bC=some r): Calls prog 56 #[] c0.w (ay c0 fun c v=>∃a b,Own c G (es true ah a 88 b r :: F)∧v=a∧OA ah c a b r):=by
 unfold bC at H;refine en func56 rfl rfl (sr (va (Y) (wln (sr (va (III 2381 2381) (va (III 2509 2509) (va (III 2765 2765) (va (III 2893 2893) (va (III 3149 3149) (va (III 3405 3405) (me (sl ah 88 [[I 2381,I 2381],[I 2509,I 2509],[I 2765,I 2765],[I 2893,I 2893],[I 3149,I 3149],[I 3405,I 3405]] ([(2381,2381),(2509,2509),(2765,2765),(2893,2893),(3149,3149),(3405,3405)]:List (Int×Int)) d ⟨rfl,rfl,rfl,rfl,rfl,rfl,trivial⟩) ?_)))))))))));rintro v5 f i ⟨h,e,g⟩;refine va (v5) (wln (W.ret ?_));obtain rfl:=si H;exact r1 (qq f ⟨v5,h,e,rfl,g⟩)
def bB:Option (List (Int×Int)):=
 some ([(768,879),(1155,1159),(1425,1469),(1552,1562),(1611,1631),(2364,2364),(2385,2388),(2492,2492),(2748,2748),(2876,2876),(3132,3132),(6832,6845),(7616,7679),(8205,8205),(8400,8412),(12330,12335),(12441,12442),(65056,65071)]:List (Int×Int))
theorem ej (d:Own c0 G F) {r:List (Int×Int)} (H:bB=some r): Calls prog 57 #[] c0.w (ay c0 fun c v=>∃a b,Own c G (es true ah a 88 b r :: F)∧v=a∧OA ah c a b r):=by
 unfold bB at H;refine en func57 rfl rfl (sr (va (Y) (wln (sr (va (III 768 879) (va (III 1155 1159) (va (III 1425 1469) (va (III 1552 1562) (va (III 1611 1631) (va (III 2364 2364) (va (III 2385 2388) (va (III 2492 2492) (va (III 2748 2748) (va (III 2876 2876) (va (III 3132 3132) (va (III 6832 6845) (va (III 7616 7679) (va (III 8205 8205) (va (III 8400 8412) (va (III 12330 12335) (va (III 12441 12442) (va (III 65056 65071) (me (sl ah 88 [[I 768,I 879],[I 1155,I 1159],[I 1425,I 1469],[I 1552,I 1562],[I 1611,I 1631],[I 2364,I 2364],[I 2385,I 2388],[I 2492,I 2492],[I 2748,I 2748],[I 2876,I 2876],[I 3132,I 3132],[I 6832,I 6845],[I 7616,I 7679],[I 8205,I 8205],[I 8400,I 8412],[I 12330,I 12335],[I 12441,I 12442],[I 65056,I 65071]] ([(768,879),(1155,1159),(1425,1469),(1552,1562),(1611,1631),(2364,2364),(2385,2388),(2492,2492),(2748,2748),(2876,2876),(3132,3132),(6832,6845),(7616,7679),(8205,8205),(8400,8412),(12330,12335),(12441,12442),(65056,65071)]:List (Int×Int)) d ⟨rfl,rfl,rfl,rfl,rfl,rfl,rfl,rfl,rfl,rfl,rfl,rfl,rfl,rfl,rfl,rfl,rfl,rfl,trivial⟩) ?_)))))))))))))))))))))));rintro v5 f i ⟨h,e,g⟩;refine va (v5) (wln (W.ret ?_));obtain rfl:=si H;exact r1 (qq f ⟨v5,h,e,rfl,g⟩)
def br (p0:Int):Option (Int):=
 (bD).bind fun c=>
 (bC).bind fun d=>
 (bB).bind fun e=>
 (aU (σ:=Int) (τ:=Int ⊕ Unit) (((([c,d,e]:List (List (Int×Int))).length:Int) - 0).toNat+1) (fun b=>
 if (decide (b < (([c,d,e]:List (List (Int×Int))).length:Int)))=true then
 (idx ([c,d,e]:List (List (Int×Int))) b).bind fun f=>
 (aJ f p0).bind fun g=>
 if g=true then
 some (.inr (.inl (w64 (b+1))))
 else
 some (.inl ((w64 (b+1))))
 else
 some (.inr (.inr ()))) (0)).bind fun a=>
 match a with
 | .inl a=>
 some a
 | .inr a=>
 some 0
theorem fm (O0:Own c0 G F) (E:Int) {r:Int} (H:br E=some r): Calls prog 24 #[J E] c0.w (ay c0 fun c v=>Own c G (F)∧v=I r):=by
 unfold br at H;refine en func24 rfl rfl (sr (va (I 0) (wln (sr (bn H fun b h1 H=>cl (el O0 h1) ?_)))));rintro v2 c9 l9 ⟨_,u3,O6,rfl,h4⟩;refine bn H fun d a1 H=>cl (ek O6 a1) ?_;rintro v12 g2 p1 ⟨_,b0,h0,rfl,b1⟩;refine bn H fun f c1 H=>cl (ej h0 c1) ?_;rintro v22 h2 U ⟨_,d0,i0,rfl,d1⟩;obtain ⟨i2,e1,X,j0,P⟩:=i0.frz 2 rfl (h4.mono (p1.trans U));refine WL.gh e1 ?_;obtain ⟨j2,f1,Z,k0,R⟩:=j0.frz 1 rfl (b1.mono (U.trans X));refine WL.gh f1 ?_;obtain ⟨k2,g1,a0,l0,S⟩:=k0.frz 0 rfl (d1.mono (X.trans Z));refine WL.gh g1 ?_;obtain ⟨h,i,k,rfl⟩:=((P.mono (Z.trans a0))).form;obtain ⟨n,o,p,rfl⟩:=((R.mono a0)).form;obtain ⟨q,s,u,rfl⟩:=(S).form;refine me (sl (RL ah) 73 [[.slice h i k],[.slice n o p],[.slice q s u]] ([b,d,f]:List (List (Int×Int))) l0 ⟨⟨(.slice h i k),rfl,P.m⟩,⟨(.slice n o p),rfl,R.m⟩,⟨(.slice q s u),rfl,S⟩,trivial⟩) ?_;rintro v56 x o2 ⟨e0,m0,y⟩;refine va (v56) (wln (W.seq (sr (va (I 0) (wln (W.block (bn H fun g T z=>lp T (fun a=>Jn x fun c l=>Own c G (es true (RL ah) v56 73 e0 ([b,d,f]:List (List (Int×Int))) :: es false ah (.slice q s u) 88 d0 f :: es false ah (.slice n o p) 88 b0 d :: es false ah (.slice h i k) 88 u3 b :: F)∧l= [(0,J E),(3,v56),(4,I a)]) (fun t=>match t with | .inl x_=>(fun t1 ex e w=>ex= .ret∧(Jn x fun c l=>Own c G (F)∧l= [(2,I t1)]) e w) x_ | .inr x_=>(fun y1 ex e w=>ex= .exit 0∧(Jn x fun c l=>Own c G (es true (RL ah) v56 73 e0 ([b,d,f]:List (List (Int×Int))) :: es false ah (.slice q s u) 88 d0 f :: es false ah (.slice n o p) 88 b0 d :: es false ah (.slice h i k) 88 u3 b :: F)∧l= []) e w) x_) ?_ ?_ ?_)))))))
 ·clear z T;intro a u2 y0 x1 H;revert y0 x1;rintro e_ w_ ⟨u0,l2,_,rfl,q1,rfl,A,rfl⟩;refine W.seq (sr (va (I a) (va (v56) (vx (lnO 3 ke y.m) (va (B (decide (a < (([b,d,f]:List (List (Int×Int))).length:Int)))) (wln (cn H (fun i1 H=>?_) (fun i1 H=>?_))))))))
  ·refine W.skip (nrm (W.seq (W.block (sr (va (v56) (va (I a) (bn H fun g0 D H=>vx (ixO ke y.m D) ?_)))))));obtain ⟨e2,j1,s1⟩:=OA.at (y.mono q1) D;obtain ⟨v1,rfl,k1⟩:=j1;refine vr v1 (rx (by kernel_rfl) (fF kf rfl (A.on 0 rfl) (y.m.blk D) (at1 (j:=0) s1 rfl))) (va (J E) (bn H fun f2 m1 H=>cl (cc A g0 E k1 m1) ?_));rintro t2 N p2 ⟨M,rfl⟩;refine wln (cn H (fun n1 H=>?_) (fun n1 H=>?_))
   ·refine sr (va (I a) (vv (I (w64 (a+1))) (wln (W.ret (bkr (thr ?_))))));obtain rfl:=si H;refine ⟨_,rfl,⟨rfl,?_⟩⟩;have o0:=M.sD 4 [];exact jn N ⟨o0,rfl⟩
   refine W.skip (bkn (nrm (W.region (va (I a) (vv (I (w64 (a+1))) (WL.nil ?_))))));obtain rfl:=si H;exact ⟨_,rfl,jn N ⟨M,rfl⟩⟩
  refine W.exit (thx ?_);obtain rfl:=si H;exact ⟨_,rfl,rfl,jn u0 ⟨A,rfl⟩⟩
 ·exact jn x ⟨m0,rfl⟩
 rcases g with g | g
 ·intro z0; revert z0;rintro _ e_ w_ ⟨rfl,v0,m2,_,rfl,q2,rfl,q0,rfl⟩;refine bkr (thr ?_);obtain rfl:=si z;exact r1 (qq v0 ⟨q0,rfl⟩)
 rintro _ e_ w_ ⟨rfl,w0,n2,_,rfl,s2,rfl,s0,rfl⟩;refine bke (nrm (sr (va (I 0) (wln (W.ret ?_)))));obtain rfl:=si z;have t0:=s0.sD 4 [];exact r1 (qq w0 ⟨t0,rfl⟩)
def aW:List (Int×Int):=[(4352,4447),(8986,8987),(9001,9002),(9193,9196),(9200,9200),(9203,9203),(9725,9726),(9748,9749),(9800,9811),(9855,9855),(9875,9875),(9889,9889),(9898,9899),(9917,9918),(9924,9925),(9934,9934),(9940,9940),(9962,9962),(9970,9971),(9973,9973),(9978,9978),(9981,9981),(9989,9989),(9994,9995),(10024,10024),(10060,10060),(10062,10062),(10067,10069),(10071,10071),(10133,10135),(10160,10160),(10175,10175),(11035,11036),(11088,11088),(11093,11093),(11904,11929),(11931,12019),(12032,12245),(12272,12287),(12289,12350),(12353,12438),(12441,12543),(12549,12591),(12593,12686),(12688,12771),(12784,12830),(12832,12871),(12880,19903),(19968,42124),(42128,42182),(43360,43388),(44032,55203),(63744,64255),(65040,65049),(65072,65106),(65108,65126),(65128,65131),(94176,94180),(94208,100343),(100352,101589),(110592,110882),(126980,126980),(127183,127183),(127374,127374),(127377,127386),(127488,127490),(127504,127547),(127552,127560),(127568,127569),(127584,127589),(127744,127776),(127789,127797),(127799,127868),(127870,127891),(127904,127946),(127951,127955),(127968,127984),(127988,127988),(127992,128062),(128064,128064),(128066,128252),(128255,128317),(128331,128334),(128336,128359),(128378,128378),(128405,128406),(128420,128420),(128507,128591),(128640,128709),(128716,128716),(128720,128722),(128725,128727),(128732,128735),(128747,128748),(128756,128764),(128992,129003),(129008,129008),(129292,129338),(129340,129349),(129351,129535),(129648,129660),(129664,129672),(129680,129725),(129727,129733),(129742,129755),(129760,129768),(129776,129784),(131072,196605),(196608,262141)]
def bA:Option (List (Int×Int)):=
 some aW
theorem ei (d:Own c0 G F) {r:List (Int×Int)} (H:bA=some r): Calls prog 58 #[] c0.w (ay c0 fun c v=>∃a b,Own c G (es true ah a 88 b r :: F)∧v=a∧OA ah c a b r):=by
 unfold bA at H;refine en func58 rfl rfl (sr (va (Y) (wln (sr (va (III 4352 4447) (va (III 8986 8987) (va (III 9001 9002) (va (III 9193 9196) (va (III 9200 9200) (va (III 9203 9203) (va (III 9725 9726) (va (III 9748 9749) (va (III 9800 9811) (va (III 9855 9855) (va (III 9875 9875) (va (III 9889 9889) (va (III 9898 9899) (va (III 9917 9918) (va (III 9924 9925) (va (III 9934 9934) (va (III 9940 9940) (va (III 9962 9962) (va (III 9970 9971) (va (III 9973 9973) (va (III 9978 9978) (va (III 9981 9981) (va (III 9989 9989) (va (III 9994 9995) (va (III 10024 10024) (va (III 10060 10060) (va (III 10062 10062) (va (III 10067 10069) (va (III 10071 10071) (va (III 10133 10135) (va (III 10160 10160) (va (III 10175 10175) (va (III 11035 11036) (va (III 11088 11088) (va (III 11093 11093) (va (III 11904 11929) (va (III 11931 12019) (va (III 12032 12245) (va (III 12272 12287) (va (III 12289 12350) (va (III 12353 12438) (va (III 12441 12543) (va (III 12549 12591) (va (III 12593 12686) (va (III 12688 12771) (va (III 12784 12830) (va (III 12832 12871) (va (III 12880 19903) (va (III 19968 42124) (va (III 42128 42182) (va (III 43360 43388) (va (III 44032 55203) (va (III 63744 64255) (va (III 65040 65049) (va (III 65072 65106) (va (III 65108 65126) (va (III 65128 65131) (va (III 94176 94180) (va (III 94208 100343) (va (III 100352 101589) (va (III 110592 110882) (va (III 126980 126980) (va (III 127183 127183) (va (III 127374 127374) (va (III 127377 127386) (va (III 127488 127490) (va (III 127504 127547) (va (III 127552 127560) (va (III 127568 127569) (va (III 127584 127589) (va (III 127744 127776) (va (III 127789 127797) (va (III 127799 127868) (va (III 127870 127891) (va (III 127904 127946) (va (III 127951 127955) (va (III 127968 127984) (va (III 127988 127988) (va (III 127992 128062) (va (III 128064 128064) (va (III 128066 128252) (va (III 128255 128317) (va (III 128331 128334) (va (III 128336 128359) (va (III 128378 128378) (va (III 128405 128406) (va (III 128420 128420) (va (III 128507 128591) (va (III 128640 128709) (va (III 128716 128716) (va (III 128720 128722) (va (III 128725 128727) (va (III 128732 128735) (va (III 128747 128748) (va (III 128756 128764) (va (III 128992 129003) (va (III 129008 129008) (va (III 129292 129338) (va (III 129340 129349) (va (III 129351 129535) (va (III 129648 129660) (va (III 129664 129672) (va (III 129680 129725) (va (III 129727 129733) (va (III 129742 129755) (va (III 129760 129768) (va (III 129776 129784) (va (III 131072 196605) (va (III 196608 262141) (me (Own.sl (R:=ah) (E:=88) (ls:=aW.map (fun x=>[I x.1,I x.2])) (vs:=(aW.map (fun x=>[I x.1,I x.2])).flatten) (xs:=aW) true d (au _) rfl (dJ.map _ (fun _=>rfl) _) (by kernel_rfl) (by kernel_rfl)) ?_))))))))))))))))))))))))))))))))))))))))))))))))))))))))))))))))))))))))))))))))))))))))))))))))))))))))))))))))));rintro v5 f i ⟨h,e,g⟩;refine va (v5) (wln (W.ret ?_));obtain rfl:=si H;exact r1 (qq f ⟨v5,h,e,rfl,g⟩)
def bz:Option (List (Int×Int)):=
 some ([(12288,12288),(65281,65376),(65504,65510)]:List (Int×Int))
theorem dZ (d:Own c0 G F) {r:List (Int×Int)} (H:bz=some r): Calls prog 59 #[] c0.w (ay c0 fun c v=>∃a b,Own c G (es true ah a 88 b r :: F)∧v=a∧OA ah c a b r):=by
 unfold bz at H;refine en func59 rfl rfl (sr (va (Y) (wln (sr (va (III 12288 12288) (va (III 65281 65376) (va (III 65504 65510) (me (sl ah 88 [[I 12288,I 12288],[I 65281,I 65376],[I 65504,I 65510]] ([(12288,12288),(65281,65376),(65504,65510)]:List (Int×Int)) d ⟨rfl,rfl,rfl,trivial⟩) ?_))))))));rintro v5 f i ⟨h,e,g⟩;refine va (v5) (wln (W.ret ?_));obtain rfl:=si H;exact r1 (qq f ⟨v5,h,e,rfl,g⟩)
def bw:Option (List (Int×Int)):=
 some ([(8361,8361),(65377,65470),(65474,65479),(65482,65487),(65490,65495),(65498,65500),(65512,65518)]:List (Int×Int))
theorem dY (d:Own c0 G F) {r:List (Int×Int)} (H:bw=some r): Calls prog 60 #[] c0.w (ay c0 fun c v=>∃a b,Own c G (es true ah a 88 b r :: F)∧v=a∧OA ah c a b r):=by
 unfold bw at H;refine en func60 rfl rfl (sr (va (Y) (wln (sr (va (III 8361 8361) (va (III 65377 65470) (va (III 65474 65479) (va (III 65482 65487) (va (III 65490 65495) (va (III 65498 65500) (va (III 65512 65518) (me (sl ah 88 [[I 8361,I 8361],[I 65377,I 65470],[I 65474,I 65479],[I 65482,I 65487],[I 65490,I 65495],[I 65498,I 65500],[I 65512,I 65518]] ([(8361,8361),(65377,65470),(65474,65479),(65482,65487),(65490,65495),(65498,65500),(65512,65518)]:List (Int×Int)) d ⟨rfl,rfl,rfl,rfl,rfl,rfl,rfl,trivial⟩) ?_))))))))))));rintro v5 f i ⟨h,e,g⟩;refine va (v5) (wln (W.ret ?_));obtain rfl:=si H;exact r1 (qq f ⟨v5,h,e,rfl,g⟩)
def bq (p0:Int):Option (Int):=
 (bA).bind fun c=>
 (bz).bind fun d=>
 (bw).bind fun e=>
 (aU (σ:=Int) (τ:=Int ⊕ Unit) (((([c,d,e]:List (List (Int×Int))).length:Int) - 0).toNat+1) (fun b=>
 if (decide (b < (([c,d,e]:List (List (Int×Int))).length:Int)))=true then
 (idx ([c,d,e]:List (List (Int×Int))) b).bind fun f=>
 (aJ f p0).bind fun g=>
 if g=true then
 some (.inr (.inl (w64 (b+1))))
 else
 some (.inl ((w64 (b+1))))
 else
 some (.inr (.inr ()))) (0)).bind fun a=>
 match a with
 | .inl a=>
 some a
 | .inr a=>
 some 0
theorem fl (O0:Own c0 G F) (E:Int) {r:Int} (H:bq E=some r): Calls prog 25 #[J E] c0.w (ay c0 fun c v=>Own c G (F)∧v=I r):=by
 unfold bq at H;refine en func25 rfl rfl (sr (va (I 0) (wln (sr (bn H fun b h1 H=>cl (ei O0 h1) ?_)))));rintro v2 c9 l9 ⟨_,u3,O6,rfl,h4⟩;refine bn H fun d a1 H=>cl (dZ O6 a1) ?_;rintro v12 g2 p1 ⟨_,b0,h0,rfl,b1⟩;refine bn H fun f c1 H=>cl (dY h0 c1) ?_;rintro v22 h2 U ⟨_,d0,i0,rfl,d1⟩;obtain ⟨i2,e1,X,j0,P⟩:=i0.frz 2 rfl (h4.mono (p1.trans U));refine WL.gh e1 ?_;obtain ⟨j2,f1,Z,k0,R⟩:=j0.frz 1 rfl (b1.mono (U.trans X));refine WL.gh f1 ?_;obtain ⟨k2,g1,a0,l0,S⟩:=k0.frz 0 rfl (d1.mono (X.trans Z));refine WL.gh g1 ?_;obtain ⟨h,i,k,rfl⟩:=((P.mono (Z.trans a0))).form;obtain ⟨n,o,p,rfl⟩:=((R.mono a0)).form;obtain ⟨q,s,u,rfl⟩:=(S).form;refine me (sl (RL ah) 73 [[.slice h i k],[.slice n o p],[.slice q s u]] ([b,d,f]:List (List (Int×Int))) l0 ⟨⟨(.slice h i k),rfl,P.m⟩,⟨(.slice n o p),rfl,R.m⟩,⟨(.slice q s u),rfl,S⟩,trivial⟩) ?_;rintro v56 x o2 ⟨e0,m0,y⟩;refine va (v56) (wln (W.seq (sr (va (I 0) (wln (W.block (bn H fun g T z=>lp T (fun a=>Jn x fun c l=>Own c G (es true (RL ah) v56 73 e0 ([b,d,f]:List (List (Int×Int))) :: es false ah (.slice q s u) 88 d0 f :: es false ah (.slice n o p) 88 b0 d :: es false ah (.slice h i k) 88 u3 b :: F)∧l= [(0,J E),(3,v56),(4,I a)]) (fun t=>match t with | .inl x_=>(fun t1 ex e w=>ex= .ret∧(Jn x fun c l=>Own c G (F)∧l= [(2,I t1)]) e w) x_ | .inr x_=>(fun y1 ex e w=>ex= .exit 0∧(Jn x fun c l=>Own c G (es true (RL ah) v56 73 e0 ([b,d,f]:List (List (Int×Int))) :: es false ah (.slice q s u) 88 d0 f :: es false ah (.slice n o p) 88 b0 d :: es false ah (.slice h i k) 88 u3 b :: F)∧l= []) e w) x_) ?_ ?_ ?_)))))))
 ·clear z T;intro a u2 y0 x1 H;revert y0 x1;rintro e_ w_ ⟨u0,l2,_,rfl,q1,rfl,A,rfl⟩;refine W.seq (sr (va (I a) (va (v56) (vx (lnO 3 ke y.m) (va (B (decide (a < (([b,d,f]:List (List (Int×Int))).length:Int)))) (wln (cn H (fun i1 H=>?_) (fun i1 H=>?_))))))))
  ·refine W.skip (nrm (W.seq (W.block (sr (va (v56) (va (I a) (bn H fun g0 D H=>vx (ixO ke y.m D) ?_)))))));obtain ⟨e2,j1,s1⟩:=OA.at (y.mono q1) D;obtain ⟨v1,rfl,k1⟩:=j1;refine vr v1 (rx (by kernel_rfl) (fF kf rfl (A.on 0 rfl) (y.m.blk D) (at1 (j:=0) s1 rfl))) (va (J E) (bn H fun f2 m1 H=>cl (cc A g0 E k1 m1) ?_));rintro t2 N p2 ⟨M,rfl⟩;refine wln (cn H (fun n1 H=>?_) (fun n1 H=>?_))
   ·refine sr (va (I a) (vv (I (w64 (a+1))) (wln (W.ret (bkr (thr ?_))))));obtain rfl:=si H;refine ⟨_,rfl,⟨rfl,?_⟩⟩;have o0:=M.sD 4 [];exact jn N ⟨o0,rfl⟩
   refine W.skip (bkn (nrm (W.region (va (I a) (vv (I (w64 (a+1))) (WL.nil ?_))))));obtain rfl:=si H;exact ⟨_,rfl,jn N ⟨M,rfl⟩⟩
  refine W.exit (thx ?_);obtain rfl:=si H;exact ⟨_,rfl,rfl,jn u0 ⟨A,rfl⟩⟩
 ·exact jn x ⟨m0,rfl⟩
 rcases g with g | g
 ·intro z0; revert z0;rintro _ e_ w_ ⟨rfl,v0,m2,_,rfl,q2,rfl,q0,rfl⟩;refine bkr (thr ?_);obtain rfl:=si z;exact r1 (qq v0 ⟨q0,rfl⟩)
 rintro _ e_ w_ ⟨rfl,w0,n2,_,rfl,s2,rfl,s0,rfl⟩;refine bke (nrm (sr (va (I 0) (wln (W.ret ?_)))));obtain rfl:=si z;have t0:=s0.sD 4 [];exact r1 (qq w0 ⟨t0,rfl⟩)
def aM (p0:Int):Option (av):=
 (bu p0).bind fun b=>
 (bt p0).bind fun c=>
 (br p0).bind fun d=>
 (bq p0).bind fun a=>
 some (⟨b,c,d,a⟩:av)
theorem fk (p:Own c0 G F) (a:Int) {r:av} (H:aM a=some r): Calls prog 7 #[J a] c0.w (ay c0 fun c v=>Own c G (F)∧v= .agg #[I r.Break,B r.Pict,I r.Conj,I r.East]):=by
 unfold aM at H;refine en func7 rfl rfl (sr (me (al 28 [I 0,B false,I 0,I 0] p) ?_));rintro v4 R S ⟨P,rfl,q⟩;refine wln (sr (va (J a) (bn H fun d t H=>cl (fp q a t) ?_)));rintro v11 u A ⟨s,rfl⟩;refine va (J a) (bn H fun e m H=>cl (fo s a m) ?_);rintro v18 x D ⟨i,rfl⟩;refine va (J a) (bn H fun f n H=>cl (fm i a n) ?_);rintro v25 y E ⟨j,rfl⟩;refine va (J a) (bn H fun b o H=>cl (fl j a o) ?_);rintro v32 z M ⟨k,rfl⟩;refine va (.agg #[I d,B e,I f,I b]) (md (sA 28 [I d,B e,I f,I b] 0 k ⟨rfl,rfl,rfl,rfl,trivial⟩) ?_);rintro h N g;refine wln (W.ret ?_);obtain rfl:=si H;have l:=g.sD 1 [];exact kp (c:=h) (vs:=[I d,B e,I f,I b]) rfl (by kernel_rfl) (by kernel_rfl) (by kernel_rfl) (g.on 0 rfl _ rfl).1 ⟨_,h,rfl,rfl,pt,l,rfl⟩
def cG:List (Int×Int×Int):=[(0,9,3),(10,10,2),(11,12,3),(13,13,1),(14,31,3),(127,159,3),(173,173,3),(768,879,4),(1155,1161,4),(1425,1469,4),(1471,1471,4),(1473,1474,4),(1476,1477,4),(1479,1479,4),(1536,1541,7),(1552,1562,4),(1564,1564,3),(1611,1631,4),(1648,1648,4),(1750,1756,4),(1757,1757,7),(1759,1764,4),(1767,1768,4),(1770,1773,4),(1807,1807,7),(1809,1809,4),(1840,1866,4),(1958,1968,4),(2027,2035,4),(2070,2073,4),(2075,2083,4),(2192,2193,7),(2259,2273,4),(2274,2274,7),(2275,2306,4),(2307,2307,8),(2362,2362,4),(2363,2363,8),(2364,2364,4),(2366,2368,8),(2369,2376,4),(2377,2380,8),(2381,2381,4),(2382,2383,8),(2385,2391,4),(2402,2403,4),(2433,2433,4),(2434,2435,8),(2492,2492,4),(2494,2494,4),(2495,2496,8),(2497,2500,4),(2503,2504,8),(2507,2508,8),(2509,2509,4),(2519,2519,4),(2530,2531,4),(2561,2562,4),(2563,2563,8),(2620,2620,4),(2622,2624,8),(2625,2626,4),(2631,2632,4),(2635,2637,4),(2691,2691,8),(2748,2748,4),(2750,2752,8),(2753,2757,4),(2761,2761,8),(2765,2765,4),(2818,2819,8),(2876,2876,4),(2878,2879,4),(2880,2880,8),(2881,2884,4),(2887,2888,8),(2893,2893,4),(2902,2903,4),(3073,3075,8),(3132,3132,4),(3134,3136,4),(3137,3140,8),(3142,3144,4),(3146,3149,4),(3276,3277,4),(3330,3331,8),(3390,3390,4),(3391,3392,8),(3393,3396,4),(3398,3400,8),(3405,3405,4),(3406,3406,7),(3633,3633,4),(3635,3635,8),(3636,3642,4),(3655,3662,4),(3761,3761,4),(3763,3763,8),(3764,3772,4),(3864,3865,4),(3902,3903,8),(3953,3966,4),(4155,4156,8),(4957,4959,4),(6158,6158,3),(6832,6862,4),(7616,7679,4),(8203,8203,3),(8204,8204,4),(8205,8205,5),(8206,8207,3),(8232,8238,3),(8288,8303,3),(8400,8432,4),(12330,12335,4),(12441,12442,4),(42607,42610,4),(64286,64286,4),(65024,65039,4),(65056,65071,4),(65279,65279,3),(65520,65531,3),(69821,69821,7),(69837,69837,7),(127462,127487,6),(127995,127999,4),(917504,917535,3),(917536,917631,4),(917632,917759,3),(917760,917999,4),(918000,921599,3)]
def dh:Option (List (Int×Int×Int)):=
 some cG
theorem gi (d:Own c0 G F) {r:List (Int×Int×Int)} (H:dh=some r): Calls prog 35 #[] c0.w (ay c0 fun c v=>∃a b,Own c G (es true aQ a 55 b r :: F)∧v=a∧OA aQ c a b r):=by
 unfold dh at H;refine en func35 rfl rfl (sr (va (Y) (wln (sr (va (ae 0 9 3) (va (ae 10 10 2) (va (ae 11 12 3) (va (ae 13 13 1) (va (ae 14 31 3) (va (ae 127 159 3) (va (ae 173 173 3) (va (ae 768 879 4) (va (ae 1155 1161 4) (va (ae 1425 1469 4) (va (ae 1471 1471 4) (va (ae 1473 1474 4) (va (ae 1476 1477 4) (va (ae 1479 1479 4) (va (ae 1536 1541 7) (va (ae 1552 1562 4) (va (ae 1564 1564 3) (va (ae 1611 1631 4) (va (ae 1648 1648 4) (va (ae 1750 1756 4) (va (ae 1757 1757 7) (va (ae 1759 1764 4) (va (ae 1767 1768 4) (va (ae 1770 1773 4) (va (ae 1807 1807 7) (va (ae 1809 1809 4) (va (ae 1840 1866 4) (va (ae 1958 1968 4) (va (ae 2027 2035 4) (va (ae 2070 2073 4) (va (ae 2075 2083 4) (va (ae 2192 2193 7) (va (ae 2259 2273 4) (va (ae 2274 2274 7) (va (ae 2275 2306 4) (va (ae 2307 2307 8) (va (ae 2362 2362 4) (va (ae 2363 2363 8) (va (ae 2364 2364 4) (va (ae 2366 2368 8) (va (ae 2369 2376 4) (va (ae 2377 2380 8) (va (ae 2381 2381 4) (va (ae 2382 2383 8) (va (ae 2385 2391 4) (va (ae 2402 2403 4) (va (ae 2433 2433 4) (va (ae 2434 2435 8) (va (ae 2492 2492 4) (va (ae 2494 2494 4) (va (ae 2495 2496 8) (va (ae 2497 2500 4) (va (ae 2503 2504 8) (va (ae 2507 2508 8) (va (ae 2509 2509 4) (va (ae 2519 2519 4) (va (ae 2530 2531 4) (va (ae 2561 2562 4) (va (ae 2563 2563 8) (va (ae 2620 2620 4) (va (ae 2622 2624 8) (va (ae 2625 2626 4) (va (ae 2631 2632 4) (va (ae 2635 2637 4) (va (ae 2691 2691 8) (va (ae 2748 2748 4) (va (ae 2750 2752 8) (va (ae 2753 2757 4) (va (ae 2761 2761 8) (va (ae 2765 2765 4) (va (ae 2818 2819 8) (va (ae 2876 2876 4) (va (ae 2878 2879 4) (va (ae 2880 2880 8) (va (ae 2881 2884 4) (va (ae 2887 2888 8) (va (ae 2893 2893 4) (va (ae 2902 2903 4) (va (ae 3073 3075 8) (va (ae 3132 3132 4) (va (ae 3134 3136 4) (va (ae 3137 3140 8) (va (ae 3142 3144 4) (va (ae 3146 3149 4) (va (ae 3276 3277 4) (va (ae 3330 3331 8) (va (ae 3390 3390 4) (va (ae 3391 3392 8) (va (ae 3393 3396 4) (va (ae 3398 3400 8) (va (ae 3405 3405 4) (va (ae 3406 3406 7) (va (ae 3633 3633 4) (va (ae 3635 3635 8) (va (ae 3636 3642 4) (va (ae 3655 3662 4) (va (ae 3761 3761 4) (va (ae 3763 3763 8) (va (ae 3764 3772 4) (va (ae 3864 3865 4) (va (ae 3902 3903 8) (va (ae 3953 3966 4) (va (ae 4155 4156 8) (va (ae 4957 4959 4) (va (ae 6158 6158 3) (va (ae 6832 6862 4) (va (ae 7616 7679 4) (va (ae 8203 8203 3) (va (ae 8204 8204 4) (va (ae 8205 8205 5) (va (ae 8206 8207 3) (va (ae 8232 8238 3) (va (ae 8288 8303 3) (va (ae 8400 8432 4) (va (ae 12330 12335 4) (va (ae 12441 12442 4) (va (ae 42607 42610 4) (va (ae 64286 64286 4) (va (ae 65024 65039 4) (va (ae 65056 65071 4) (va (ae 65279 65279 3) (va (ae 65520 65531 3) (va (ae 69821 69821 7) (va (ae 69837 69837 7) (va (ae 127462 127487 6) (va (ae 127995 127999 4) (va (ae 917504 917535 3) (va (ae 917536 917631 4) (va (ae 917632 917759 3) (va (ae 917760 917999 4) (va (ae 918000 921599 3) (me (Own.sl (R:=aQ) (E:=55) (ls:=cG.map (fun x=>[I x.1,I x.2.1,I x.2.2])) (vs:=(cG.map (fun x=>[I x.1,I x.2.1,I x.2.2])).flatten) (xs:=cG) true d (au _) rfl (dJ.map _ (fun _=>rfl) _) (by kernel_rfl) (by kernel_rfl)) ?_))))))))))))))))))))))))))))))))))))))))))))))))))))))))))))))))))))))))))))))))))))))))))))))))))))))))))))))))))))))))))))))))))))))));rintro v5 f i ⟨h,e,g⟩;refine va (v5) (wln (W.ret ?_));obtain rfl:=si H;exact r1 (qq f ⟨v5,h,e,rfl,g⟩)
def bm (p0:Int) (p1:Int) (p2:Int):Option (Bool):=
 (cW (decide (p0≥p1)) (some (decide (p0≤p2)))).bind fun a=>
 some a
theorem cu (f:Own c0 G F) (a:Int) (e:Int) (b:Int) {r:Bool} (H:bm a e b=some r): Calls prog 69 #[J a,J e,J b] c0.w (ay c0 fun c v=>Own c G (F)∧v=B r):=by
 unfold bm at H;refine en func69 rfl rfl (sr (va (B false) (wln (W.seq (bn H fun g h H=>W.join (Jn c0 fun c l=>Own c G (F)∧l= [(6,B g)]) ?_ ?_)))))
 ·clear H;refine W.region (va (J a) (va (J e) (va (B (decide (a≥e))) ?_)));rcases bo (decide (a≥e)) with d | d
  ·have i:=anT d h;refine vb d (wa (J a) (wa (J b) (wa (B (decide (a≤b))) ?_)));obtain rfl:=si i;exact vv (B (decide (a≤b))) (wln (jn c0 ⟨f,rfl⟩))
  obtain rfl:=anF d h;exact vb d (pz (ps (vv (B false) (wln (jn c0 ⟨f,rfl⟩)))))
 rintro m p ⟨k,n,_,rfl,o,rfl,j,rfl⟩;refine nrm (W.ret ?_);obtain rfl:=si H;exact r1 (qq k ⟨j,rfl⟩)
def co (p0:Int):Option (Bool):=
 (bm p0 44032 55203).bind fun a=>
 some a
theorem fK (d:Own c0 G F) (a:Int) {r:Bool} (H:co a=some r): Calls prog 70 #[J a] c0.w (ay c0 fun c v=>Own c G (F)∧v=B r):=by
 unfold co at H;refine en func70 rfl rfl (sr (va (B false) (wln (sr (va (J a) (bn H fun b g H=>cl (cu d a 44032 55203 g) ?_))))));rintro v7 f h ⟨e,rfl⟩;refine va (B b) (wln (W.ret ?_));obtain rfl:=si H;exact r1 (qq f ⟨e,rfl⟩)
def bW (p0:Int):Option (Int):=
 (bm p0 4352 4447).bind fun i=>
 (orE i ((bm p0 43360 43388).bind fun j=>
 some j)).bind fun h=>
 if h=true then
 some 9
 else
 (bm p0 4448 4519).bind fun c=>
 (orE c ((bm p0 55216 55238).bind fun d=>
 some d)).bind fun a=>
 if a=true then
 some 10
 else
 (bm p0 4520 4607).bind fun e=>
 (orE e ((bm p0 55243 55291).bind fun f=>
 some f)).bind fun b=>
 if b=true then
 some 11
 else
 (co p0).bind fun g=>
 if (!g)=true then
 some 0
 else
 if (((w32 (p0 - 44032)).tmod 28)==0)=true then
 some 12
 else
 some 13
theorem eN (O0:Own c0 G F) (a:Int) {r:Int} (H:bW a=some r): Calls prog 42 #[J a] c0.w (ay c0 fun c v=>Own c G (F)∧v=I r):=by
 unfold bW at H;refine en func42 rfl rfl (sr (va (I 0) (wln (W.seq (W.block (W.seq (bn H fun w0 h1 H=>bn H fun e0 h2 H=>W.join (Jn c0 fun c l=>Own c G (F)∧l= [(0,J a),(3,B e0)]) ?_ ?_)))))))
 ·clear H;refine W.region (va (J a) (cl (cu O0 a 4352 4447 h1) ?_));rintro v8 c7 l7 ⟨S,rfl⟩;rcases bo (w0) with j | j
  ·obtain rfl:=orT j h2;exact vb j (pz (vv (B true) (wln (jn c7 ⟨S,rfl⟩))))
  have e:=orF j h2;refine vb j (wa (J a) (wn (bn e fun A g0 e=>cl (cu S a 43360 43388 g0) ?_)));rintro v17 U l16 ⟨P,rfl⟩;obtain rfl:=si e;exact vv (B A) (wln (jn U ⟨P,rfl⟩))
 rintro e_ w_ ⟨u,a1,_,rfl,d1,rfl,o,rfl⟩;refine nrm (cn H (fun i0 H=>?_) (fun i0 H=>?_))
 ·refine sr (va (I 9) (wln (W.ret (bkr (thr ?_)))));obtain rfl:=si H;exact r1 (qq u ⟨o,rfl⟩)
 refine W.seq (bn H fun M j0 H=>bn H fun D y H=>W.join (Jn u fun c l=>Own c G (F)∧l= [(0,J a),(10,B D)]) ?_ ?_)
 ·clear H;refine W.region (va (J a) (cl (cu o a 4448 4519 j0) ?_));rintro v32 X e1 ⟨p,rfl⟩;rcases bo (M) with b | b
  ·obtain rfl:=orT b y;exact vb b (pz (vv (B true) (wln (jn X ⟨p,rfl⟩))))
  have f:=orF b y;refine vb b (wa (J a) (wn (bn f fun k k0 f=>cl (cu p a 55216 55238 k0) ?_)));rintro v41 Z f1 ⟨R,rfl⟩;obtain rfl:=si f;exact vv (B k) (wln (jn Z ⟨R,rfl⟩))
 rintro e_ w_ ⟨x,b1,_,rfl,g1,rfl,q,rfl⟩;refine nrm (cn H (fun l0 H=>?_) (fun l0 H=>?_))
 ·refine sr (va (I 10) (wln (W.ret (bkr (thr ?_)))));obtain rfl:=si H;exact r1 (qq x ⟨q,rfl⟩)
 refine W.seq (bn H fun N m0 H=>bn H fun E z H=>W.join (Jn x fun c l=>Own c G (F)∧l= [(0,J a),(17,B E)]) ?_ ?_)
 ·clear H;refine W.region (va (J a) (cl (cu q a 4520 4607 m0) ?_));rintro v56 a0 i1 ⟨s,rfl⟩;rcases bo (N) with d | d
  ·obtain rfl:=orT d z;exact vb d (pz (vv (B true) (wln (jn a0 ⟨s,rfl⟩))))
  have g:=orF d z;refine vb d (wa (J a) (wn (bn g fun m o0 g=>cl (cu s a 55243 55291 o0) ?_)));rintro n1 b0 j1 ⟨T,rfl⟩;obtain rfl:=si g;exact vv (B m) (wln (jn b0 ⟨T,rfl⟩))
 rintro e_ w_ ⟨d0,c1,_,rfl,k1,rfl,t,rfl⟩;refine nrm (cn H (fun q0 H=>?_) (fun q0 H=>?_))
 ·refine sr (va (I 11) (wln (W.ret (bkr (thr ?_)))));obtain rfl:=si H;exact r1 (qq d0 ⟨t,rfl⟩)
 refine sr (va (J a) (bn H fun n s0 H=>cl (fK t a s0) ?_));rintro p1 i m1 ⟨h,rfl⟩;refine vv (B (!n)) (wln (cn H (fun t0 H=>?_) (fun t0 H=>?_)))
 ·refine sr (va (I 0) (wln (W.ret (bkr (thr ?_)))));obtain rfl:=si H;exact r1 (qq i ⟨h,rfl⟩)
 refine sr (va (J a) (va (J (w32 (a - 44032))) (va (J ((w32 (a - 44032)).tmod 28)) (vv (B (((w32 (a - 44032)).tmod 28)==0)) (wln (cn H (fun u0 H=>?_) (fun u0 H=>?_)))))))
 ·refine sr (va (I 12) (wln (W.ret (bkr (thr ?_)))));obtain rfl:=si H;exact r1 (qq i ⟨h,rfl⟩)
 refine W.skip (bkn (nrm (sr (va (I 13) (wln (W.ret ?_))))));obtain rfl:=si H;exact r1 (qq i ⟨h,rfl⟩)
def fj (p0:Int) (q0_0:List (Int×Int×Int)) (q1_0:Int):Option (Bool):=
 (idx q0_0 p0).bind fun a=>
 some (decide (a.2.1≥(w64 q1_0)))
theorem jH {d:Nat} {e:Nat} (o:Own c0 G F) (b:Int) (q0_0:List (Int×Int×Int)) (q1_0:Int) {r:Bool} (s:∀j u,([v2]:List Value)[j]? = some u→Im c0 d (0+j) u) (k:Sl aQ c0 v2 q0_0) (t:∀j u,([J q1_0]:List Value)[j]? = some u→Im c0 e (0+j) u) (H:fj b q0_0 q1_0=some r): Calls prog 62 #[I b,Q d,Q e] c0.w (ay c0 fun c v=>Own c G (F)∧v=B r):=by
 unfold fj at H;refine en func62 rfl rfl (sr (va (B false) (wln (W.seq (rD [] (Kp G0 []) o ?_)))));intro h q p;have y:Kp G0 [] h:=Kp.nil0;refine tx 0 (fun g a=>l1 cp ((mm s) 0 _ rfl)) (ta 1 (I b) (bn H fun f l H=>?_));obtain ⟨x,i,n⟩:=Sl.at (k.mono q) (aH l);obtain rfl:=i;refine tx 2 (fun g a=>ix cp k.m l) (ta 3 (Qo (sb v2) (so v2+b.toNat * 3+1)) (tx 4 (fun g a=>l1 u_3 ((mm n) 1 _ rfl)) (tx 5 (fun g a=>l1 eC ((mm t) 0 _ rfl)) (ta 6 (I (w64 q1_0)) (ta 7 (B (decide (f.2.1≥(w64 q1_0)))) (ta 8 (B (decide (f.2.1≥(w64 q1_0)))) (dn (nrm (W.ret ?_)))))))));obtain rfl:=si H;exact r1 (qq h ⟨p,rfl⟩)
def bV (p0:Int) (p1_0_0:List (Int×Int×Int)) (p1_1_0:Int):Option (Int):=
 (aU (σ:=Int×Int) (τ:=Int) ((p0 - 0).toNat+1) (fun a=>
 if (decide (a.1 < a.2))=true then
 (fj (w64 ((IntKind.u64.wrap (w64 (a.1+a.2))).fdiv (2 ^ 1))) p1_0_0 p1_1_0).bind fun b=>
 if (!b)=true then
 some (.inl ((w64 ((w64 ((IntKind.u64.wrap (w64 (a.1+a.2))).fdiv (2 ^ 1)))+1)),a.2))
 else
 some (.inl (a.1,(w64 ((IntKind.u64.wrap (w64 (a.1+a.2))).fdiv (2 ^ 1)))))
 else
 some (.inr (a.1))) (0,p0)).bind fun c=>
 some c
theorem dN {b1_0:Nat} {b1_1:Nat} (A:Own c0 G F) (b:Int) (p1_0_0:List (Int×Int×Int)) (p1_1_0:Int) {r:Int} (N:∀j u,([v2]:List Value)[j]? = some u→Im c0 b1_0 (0+j) u) (M:Sl aQ c0 v2 p1_0_0) (P:∀j u,([J p1_1_0]:List Value)[j]? = some u→Im c0 b1_1 (0+j) u) (H:bV b p1_0_0 p1_1_0=some r): Calls prog 61 #[I b,.func (.func 62) #[] #[Q b1_0,Q b1_1]] c0.w (ay c0 fun c v=>Own c G (F)∧v=I r):=by
 unfold bV at H;refine en func61 rfl rfl (sr (va (I 0) (wln (sr (va (I b) (va (I 0) (va (I b) (wln (W.seq (W.block (bn H fun g y k=>lp y (fun a=>Jn c0 fun c l=>Own c G (F)∧l= [(1,.func (.func 62) #[] #[Q b1_0,Q b1_1]),(5,I a.1),(6,I a.2)]) (fun h ex e w=>ex= .exit 0∧(Jn c0 fun c l=>Own c G (F)∧l= [(5,I h)]) e w) ?_ ?_ ?_)))))))))))
 ·clear k y;intro a X q z H;revert q z;rintro E R ⟨D,Z,_,rfl,l7,rfl,o,rfl⟩;refine W.seq (sr (va (I a.1) (va (I a.2) (va (B (decide (a.1 < a.2))) (wln (cn H (fun s H=>?_) (fun s H=>?_)))))))
  ·refine W.skip (nrm (W.block (sr (va (I a.1) (va (I a.2) (va (I (w64 (a.1+a.2))) (va (.int .u64 (IntKind.u64.wrap (w64 (a.1+a.2)))) (va (.int .u64 ((IntKind.u64.wrap (w64 (a.1+a.2))).fdiv (2 ^ 1))) (vv (I (w64 ((IntKind.u64.wrap (w64 (a.1+a.2))).fdiv (2 ^ 1)))) (wln (sr (va (.func (.func 62) #[] #[Q b1_0,Q b1_1]) (va (I (w64 ((IntKind.u64.wrap (w64 (a.1+a.2))).fdiv (2 ^ 1)))) (bn H fun i t H=>cl (jH o (w64 ((IntKind.u64.wrap (w64 (a.1+a.2))).fdiv (2 ^ 1))) p1_0_0 p1_1_0 (mm N) M.m (mm P) t) ?_))))))))))))));rintro v20 f T ⟨d,rfl⟩;refine va (B (!i)) (wln (cn H (fun x H=>?_) (fun x H=>?_)))
   ·refine W.region (va (I (w64 ((IntKind.u64.wrap (w64 (a.1+a.2))).fdiv (2 ^ 1)))) (vv (I (w64 ((w64 ((IntKind.u64.wrap (w64 (a.1+a.2))).fdiv (2 ^ 1)))+1))) (WL.nil (bkn ?_))));obtain rfl:=si H;exact ⟨_,rfl,jn f ⟨d,rfl⟩⟩
   refine W.region (vv (I (w64 ((IntKind.u64.wrap (w64 (a.1+a.2))).fdiv (2 ^ 1)))) (WL.nil (bkn ?_)));obtain rfl:=si H;exact ⟨_,rfl,jn f ⟨d,rfl⟩⟩
  refine W.exit (thx ?_);obtain rfl:=si H;exact ⟨_,rfl,rfl,jn D ⟨o,rfl⟩⟩
 ·exact jn c0 ⟨A,rfl⟩
 rintro _ E R ⟨rfl,p,S,_,rfl,U,rfl,n,rfl⟩;refine bke (nrm (sr (vv (I g) (wln (W.ret ?_)))));obtain rfl:=si k;exact r1 (qq p ⟨n,rfl⟩)
def gJ (p0:Int):Option (Int):=
 (dh).bind fun a=>
 (bV (a.length:Int) a p0).bind fun b=>
 (cW (decide (b < (a.length:Int))) ((idx a b).bind fun d=>
 some (decide (d.1≤(w64 p0))))).bind fun c=>
 if c=true then
 (idx a b).bind fun e=>
 some e.2.2
 else
 (bW p0).bind fun f=>
 some f
theorem lL (O0:Own c0 G F) (i:Int) {r:Int} (H:gJ i=some r): Calls prog 27 #[J i] c0.w (ay c0 fun c v=>Own c G (F)∧v=I r):=by
 unfold gJ at H;refine en func27 rfl rfl (sr (me (bx 21 [J i] O0) ?_));rintro v5 c4 l4 ⟨b1,rfl,O2,R⟩;refine va (I 0) (wln (sr (bn H fun j h6 H=>cl (gi O2 h6) ?_)));rintro v7 h1 p1 ⟨_,u8,U,rfl,s⟩;refine me (al 53 [Y] U) ?_;rintro v19 i1 E ⟨y,rfl,X⟩;obtain ⟨b,d,e,rfl⟩:=((s.mono E)).form;refine md (sC 53 0 (.slice b d e) [.slice b d e] 0 X ⟨s.m.one,trivial⟩) ?_;rintro j1 v0 t;refine wln (sr (vx (le1 0 cp (t.on 0 rfl)) (vx (lnO 3 cp s.m) ?_)));obtain ⟨k1,l0,q1,Z,g⟩:=t.frz 1 rfl (s.mono (E.trans v0));refine WL.gh l0 ?_;obtain ⟨m1,m0,M,a0,n⟩:=Own.frzB 0 Z rfl;refine WL.gh m0 ?_;have b0:=a0.sD 2 [1];refine va (.func (.func 62) #[] #[Q y,Q b1]) (bn H fun a o0 H=>cl (dN b0 (j.length:Int) j i n g.m (mm R) o0) ?_);rintro v40 i0 N ⟨d0,rfl⟩;refine va (I a) (wln (W.seq (W.seq (bn H fun P z H=>W.join (Jn i0 fun c l=>Own c G (es false aQ (.slice b d e) 55 u8 j :: F)∧l= [(1,Q b1),(3,Q y),(4,I a),(23,B P)]) ?_ ?_))))
 ·clear H;refine rD [] (Kp G0 []) d0 ?_;intro p w0 u;have t1:Kp G0 [] p:=Kp.nil0;refine ta 0 (I a) (tx 1 (fun k f=>l1 cp ((mm n) 0 _ rfl)) (tx 2 (fun k f=>ln 3 cp g.m) (ta 3 (B (decide (a < (j.length:Int)))) ?_)));rcases bo (decide (a < (j.length:Int))) with h | h
  ·have o:=anT h z;refine bn o fun q A o=>AC.takeb 4 h rfl (by kernel_rfl) (by kernel_rfl) (fun k f=>(by kernel_rfl)) (tx 5 (fun k f=>l1 cp ((mm n) 0 _ rfl)) (ta 6 (I a) ?_));obtain ⟨e1,q0,y0⟩:=Sl.at (g.mono (M.trans (N.trans w0))) (aH A);obtain rfl:=q0;refine tx 7 (fun k f=>ix cp g.m A) (ta 8 (Qo (sb (.slice b d e)) (so (.slice b d e)+a.toNat * 3)) (tx 9 (fun k f=>l1 u_3 ((mm y0) 0 _ rfl)) (tx 10 (fun k f=>l1 eC ((mm R) 0 _ rfl)) (ta 11 (I (w64 i)) (ta 12 (B (decide (q.1≤(w64 i)))) ?_)))));obtain rfl:=si o;exact ta 13 (B (decide (q.1≤(w64 i)))) (dn (nrm (jn p ⟨u,rfl⟩)))
  obtain rfl:=anF h z;exact AC.takeb 4 h rfl (by kernel_rfl) (by kernel_rfl) (fun k f=>(by kernel_rfl)) (tp 5 (tp 6 (tp 7 (tp 8 (tp 9 (tp 10 (tp 11 (tp 12 (ta 13 (B false) (dn (nrm (jn p ⟨u,rfl⟩))))))))))))
 rintro e_ w_ ⟨j0,n1,_,rfl,x0,rfl,x,rfl⟩;refine nrm (cn H (fun s0 H=>?_) (fun s0 H=>?_))
 ·refine sr (vx (l1 cp ((mm n) 0 _ rfl)) (va (I a) (bn H fun S D H=>?_)));obtain ⟨f1,t0,z0⟩:=Sl.at (g.mono (M.trans (N.trans x0))) (aH D);obtain rfl:=t0;refine vx (ix cp g.m D) (va (Qo (sb (.slice b d e)) (so (.slice b d e)+a.toNat * 3+2)) (vx (l1 u_3 (z0 2 _ rfl)) (va (I S.2.2) (wln (W.ret (thr ?_))))));obtain rfl:=si H;have e0:=x.sD 1 [];exact r1 (qq j0 ⟨e0,rfl⟩)
 refine W.skip (nrm (sr (vx (l1 eC ((mm R) 0 _ rfl)) (bn H fun T u0 H=>cl (eN x i u0) ?_))));rintro u1 k0 s1 ⟨f0,rfl⟩;refine va (I T) (wln (W.ret ?_));obtain rfl:=si H;have g0:=f0.sD 1 [];exact r1 (qq k0 ⟨g0,rfl⟩)
def cF:List (Int×Int):=[(169,169),(174,174),(8252,8252),(8265,8265),(8482,8482),(8505,8505),(8596,8601),(8617,8618),(8986,8987),(9000,9000),(9096,9096),(9167,9167),(9193,9203),(9208,9210),(9410,9410),(9642,9643),(9654,9654),(9664,9664),(9723,9726),(9728,9733),(9735,9746),(9748,9861),(9872,9989),(9992,10002),(10004,10004),(10006,10006),(10013,10013),(10017,10017),(10024,10024),(10035,10036),(10052,10052),(10055,10055),(10060,10060),(10062,10062),(10067,10069),(10071,10071),(10083,10087),(10133,10135),(10145,10145),(10160,10160),(10175,10175),(10548,10549),(11013,11015),(11035,11036),(11088,11088),(11093,11093),(12336,12336),(12349,12349),(12951,12951),(12953,12953),(126976,127231),(127245,127247),(127279,127279),(127340,127345),(127358,127359),(127374,127374),(127377,127386),(127405,127461),(127489,127503),(127514,127514),(127535,127535),(127538,127546),(127548,127551),(127561,127994),(128000,128317),(128326,128591),(128640,128767),(128884,128895),(128981,129023),(129036,129039),(129096,129103),(129114,129119),(129160,129167),(129198,129279),(129292,129338),(129340,129349),(129351,129791),(130048,131069)]
def cP:Option (List (Int×Int)):=
 some cF
theorem fJ (d:Own c0 G F) {r:List (Int×Int)} (H:cP=some r): Calls prog 37 #[] c0.w (ay c0 fun c v=>∃a b,Own c G (es true dB a 59 b r :: F)∧v=a∧OA dB c a b r):=by
 unfold cP at H;refine en func37 rfl rfl (sr (va (Y) (wln (sr (va (JII 169 169) (va (JII 174 174) (va (JII 8252 8252) (va (JII 8265 8265) (va (JII 8482 8482) (va (JII 8505 8505) (va (JII 8596 8601) (va (JII 8617 8618) (va (JII 8986 8987) (va (JII 9000 9000) (va (JII 9096 9096) (va (JII 9167 9167) (va (JII 9193 9203) (va (JII 9208 9210) (va (JII 9410 9410) (va (JII 9642 9643) (va (JII 9654 9654) (va (JII 9664 9664) (va (JII 9723 9726) (va (JII 9728 9733) (va (JII 9735 9746) (va (JII 9748 9861) (va (JII 9872 9989) (va (JII 9992 10002) (va (JII 10004 10004) (va (JII 10006 10006) (va (JII 10013 10013) (va (JII 10017 10017) (va (JII 10024 10024) (va (JII 10035 10036) (va (JII 10052 10052) (va (JII 10055 10055) (va (JII 10060 10060) (va (JII 10062 10062) (va (JII 10067 10069) (va (JII 10071 10071) (va (JII 10083 10087) (va (JII 10133 10135) (va (JII 10145 10145) (va (JII 10160 10160) (va (JII 10175 10175) (va (JII 10548 10549) (va (JII 11013 11015) (va (JII 11035 11036) (va (JII 11088 11088) (va (JII 11093 11093) (va (JII 12336 12336) (va (JII 12349 12349) (va (JII 12951 12951) (va (JII 12953 12953) (va (JII 126976 127231) (va (JII 127245 127247) (va (JII 127279 127279) (va (JII 127340 127345) (va (JII 127358 127359) (va (JII 127374 127374) (va (JII 127377 127386) (va (JII 127405 127461) (va (JII 127489 127503) (va (JII 127514 127514) (va (JII 127535 127535) (va (JII 127538 127546) (va (JII 127548 127551) (va (JII 127561 127994) (va (JII 128000 128317) (va (JII 128326 128591) (va (JII 128640 128767) (va (JII 128884 128895) (va (JII 128981 129023) (va (JII 129036 129039) (va (JII 129096 129103) (va (JII 129114 129119) (va (JII 129160 129167) (va (JII 129198 129279) (va (JII 129292 129338) (va (JII 129340 129349) (va (JII 129351 129791) (va (JII 130048 131069) (me (Own.sl (R:=dB) (E:=59) (ls:=cF.map (fun x=>[J x.1,J x.2])) (vs:=(cF.map (fun x=>[J x.1,J x.2])).flatten) (xs:=cF) true d (au _) rfl (dJ.map _ (fun _=>rfl) _) (by kernel_rfl) (by kernel_rfl)) ?_)))))))))))))))))))))))))))))))))))))))))))))))))))))))))))))))))))))))))))))))))));rintro v5 f i ⟨h,e,g⟩;refine va (v5) (wln (W.ret ?_));obtain rfl:=si H;exact r1 (qq f ⟨v5,h,e,rfl,g⟩)
def eF (p0:Int) (q0_0:List (Int×Int)) (q1_0:Int):Option (Bool):=
 (idx q0_0 p0).bind fun a=>
 some (decide (a.2≥q1_0))
theorem ji {d:Nat} {e:Nat} (o:Own c0 G F) (b:Int) (q0_0:List (Int×Int)) (q1_0:Int) {r:Bool} (s:∀j u,([v2]:List Value)[j]? = some u→Im c0 d (0+j) u) (k:Sl dB c0 v2 q0_0) (t:∀j u,([J q1_0]:List Value)[j]? = some u→Im c0 e (0+j) u) (H:eF b q0_0 q1_0=some r): Calls prog 63 #[I b,Q d,Q e] c0.w (ay c0 fun c v=>Own c G (F)∧v=B r):=by
 unfold eF at H;refine en func63 rfl rfl (sr (va (B false) (wln (W.seq (rD [] (Kp G0 []) o ?_)))));intro h q p;have y:Kp G0 [] h:=Kp.nil0;refine tx 0 (fun g a=>l1 gU ((mm s) 0 _ rfl)) (ta 1 (I b) (bn H fun f l H=>?_));obtain ⟨x,i,n⟩:=Sl.at (k.mono q) (aH l);obtain rfl:=i;refine tx 2 (fun g a=>ix gU k.m l) (ta 3 (Qo (sb v2) (so v2+b.toNat * 2+1)) (tx 4 (fun g a=>l1 eC ((mm n) 1 _ rfl)) (tx 5 (fun g a=>l1 eC ((mm t) 0 _ rfl)) (ta 6 (B (decide (f.2≥q1_0))) (ta 7 (B (decide (f.2≥q1_0))) (dn (nrm (W.ret ?_))))))));obtain rfl:=si H;exact r1 (qq h ⟨p,rfl⟩)
def bO (p0:Int) (p1_0_0:List (Int×Int)) (p1_1_0:Int):Option (Int):=
 (aU (σ:=Int×Int) (τ:=Int) ((p0 - 0).toNat+1) (fun a=>
 if (decide (a.1 < a.2))=true then
 (eF (w64 ((IntKind.u64.wrap (w64 (a.1+a.2))).fdiv (2 ^ 1))) p1_0_0 p1_1_0).bind fun b=>
 if (!b)=true then
 some (.inl ((w64 ((w64 ((IntKind.u64.wrap (w64 (a.1+a.2))).fdiv (2 ^ 1)))+1)),a.2))
 else
 some (.inl (a.1,(w64 ((IntKind.u64.wrap (w64 (a.1+a.2))).fdiv (2 ^ 1)))))
 else
 some (.inr (a.1))) (0,p0)).bind fun c=>
 some c
theorem dF {b1_0:Nat} {b1_1:Nat} (A:Own c0 G F) (b:Int) (p1_0_0:List (Int×Int)) (p1_1_0:Int) {r:Int} (N:∀j u,([v2]:List Value)[j]? = some u→Im c0 b1_0 (0+j) u) (M:Sl dB c0 v2 p1_0_0) (P:∀j u,([J p1_1_0]:List Value)[j]? = some u→Im c0 b1_1 (0+j) u) (H:bO b p1_0_0 p1_1_0=some r): Calls prog 61 #[I b,.func (.func 63) #[] #[Q b1_0,Q b1_1]] c0.w (ay c0 fun c v=>Own c G (F)∧v=I r):=by
 unfold bO at H;refine en func61 rfl rfl (sr (va (I 0) (wln (sr (va (I b) (va (I 0) (va (I b) (wln (W.seq (W.block (bn H fun g y k=>lp y (fun a=>Jn c0 fun c l=>Own c G (F)∧l= [(1,.func (.func 63) #[] #[Q b1_0,Q b1_1]),(5,I a.1),(6,I a.2)]) (fun h ex e w=>ex= .exit 0∧(Jn c0 fun c l=>Own c G (F)∧l= [(5,I h)]) e w) ?_ ?_ ?_)))))))))))
 ·clear k y;intro a X q z H;revert q z;rintro E R ⟨D,Z,_,rfl,l7,rfl,o,rfl⟩;refine W.seq (sr (va (I a.1) (va (I a.2) (va (B (decide (a.1 < a.2))) (wln (cn H (fun s H=>?_) (fun s H=>?_)))))))
  ·refine W.skip (nrm (W.block (sr (va (I a.1) (va (I a.2) (va (I (w64 (a.1+a.2))) (va (.int .u64 (IntKind.u64.wrap (w64 (a.1+a.2)))) (va (.int .u64 ((IntKind.u64.wrap (w64 (a.1+a.2))).fdiv (2 ^ 1))) (vv (I (w64 ((IntKind.u64.wrap (w64 (a.1+a.2))).fdiv (2 ^ 1)))) (wln (sr (va (.func (.func 63) #[] #[Q b1_0,Q b1_1]) (va (I (w64 ((IntKind.u64.wrap (w64 (a.1+a.2))).fdiv (2 ^ 1)))) (bn H fun i t H=>cl (ji o (w64 ((IntKind.u64.wrap (w64 (a.1+a.2))).fdiv (2 ^ 1))) p1_0_0 p1_1_0 (mm N) M.m (mm P) t) ?_))))))))))))));rintro v20 f T ⟨d,rfl⟩;refine va (B (!i)) (wln (cn H (fun x H=>?_) (fun x H=>?_)))
   ·refine W.region (va (I (w64 ((IntKind.u64.wrap (w64 (a.1+a.2))).fdiv (2 ^ 1)))) (vv (I (w64 ((w64 ((IntKind.u64.wrap (w64 (a.1+a.2))).fdiv (2 ^ 1)))+1))) (WL.nil (bkn ?_))));obtain rfl:=si H;exact ⟨_,rfl,jn f ⟨d,rfl⟩⟩
   refine W.region (vv (I (w64 ((IntKind.u64.wrap (w64 (a.1+a.2))).fdiv (2 ^ 1)))) (WL.nil (bkn ?_)));obtain rfl:=si H;exact ⟨_,rfl,jn f ⟨d,rfl⟩⟩
  refine W.exit (thx ?_);obtain rfl:=si H;exact ⟨_,rfl,rfl,jn D ⟨o,rfl⟩⟩
 ·exact jn c0 ⟨A,rfl⟩
 rintro _ E R ⟨rfl,p,S,_,rfl,U,rfl,n,rfl⟩;refine bke (nrm (sr (vv (I g) (wln (W.ret ?_)))));obtain rfl:=si k;exact r1 (qq p ⟨n,rfl⟩)
def fX (p0:Int):Option (Bool):=
 (cP).bind fun a=>
 (bO (a.length:Int) a p0).bind fun b=>
 (cW (decide (b < (a.length:Int))) ((idx a b).bind fun d=>
 some (decide (d.1≤p0)))).bind fun c=>
 some c
theorem kz (O0:Own c0 G F) (j:Int) {r:Bool} (H:fX j=some r): Calls prog 28 #[J j] c0.w (ay c0 fun c v=>Own c G (F)∧v=B r):=by
 unfold fX at H;refine en func28 rfl rfl (sr (me (bx 21 [J j] O0) ?_));rintro v5 c4 l4 ⟨b1,rfl,O2,m3⟩;refine va (B false) (wln (sr (bn H fun h h6 H=>cl (fJ O2 h6) ?_)));rintro v7 u0 a1 ⟨_,u8,D,rfl,s⟩;refine me (al 57 [Y] D) ?_;rintro v19 v0 z ⟨U,rfl,E⟩;obtain ⟨d,e,f,rfl⟩:=((s.mono z)).form;refine md (sC 57 0 (.slice d e f) [.slice d e f] 0 E ⟨s.m.one,trivial⟩) ?_;rintro w0 f0 t;refine wln (sr (vx (le1 0 gU (t.on 0 rfl)) (vx (lnO 3 gU s.m) ?_)));obtain ⟨x0,a0,c1,M,n⟩:=t.frz 1 rfl (s.mono (z.trans f0));refine WL.gh a0 ?_;obtain ⟨y0,b0,g0,N,q⟩:=Own.frzB 0 M rfl;refine WL.gh b0 ?_;have P:=N.sD 2 [1];refine va (.func (.func 63) #[] #[Q U,Q b1]) (bn H fun a d0 H=>cl (dF P (h.length:Int) h j q n.m (mm m3) d0) ?_);rintro v40 X h0 ⟨R,rfl⟩;refine va (I a) (wln (W.seq (bn H fun A x H=>W.join (Jn X fun c l=>Own c G (es false dB (.slice d e f) 59 u8 h :: F)∧l= [(2,B A)]) ?_ ?_)))
 ·clear H;refine rD [] (Kp G0 []) R ?_;intro p i0 u;have e1:Kp G0 [] p:=Kp.nil0;refine ta 0 (I a) (tx 1 (fun i b=>l1 gU ((mm q) 0 _ rfl)) (tx 2 (fun i b=>ln 3 gU n.m) (ta 3 (B (decide (a < (h.length:Int)))) ?_)));rcases bo (decide (a < (h.length:Int))) with g | g
  ·have o:=anT g x;refine bn o fun k y o=>AC.takeb 4 g rfl (by kernel_rfl) (by kernel_rfl) (fun i b=>(by kernel_rfl)) (tx 5 (fun i b=>l1 gU ((mm q) 0 _ rfl)) (ta 6 (I a) ?_));obtain ⟨s0,e0,k0⟩:=Sl.at (n.mono (g0.trans (h0.trans i0))) (aH y);obtain rfl:=e0;refine tx 7 (fun i b=>ix gU n.m y) (ta 8 (Qo (sb (.slice d e f)) (so (.slice d e f)+a.toNat * 2)) (tx 9 (fun i b=>l1 eC ((mm k0) 0 _ rfl)) (tx 10 (fun i b=>l1 eC ((mm m3) 0 _ rfl)) (ta 11 (B (decide (k.1≤j))) ?_))));obtain rfl:=si o;exact ta 12 (B (decide (k.1≤j))) (ta 13 (B (decide (k.1≤j))) (dn (nrm (jn p ⟨u,rfl⟩))))
  obtain rfl:=anF g x;exact AC.takeb 4 g rfl (by kernel_rfl) (by kernel_rfl) (fun i b=>(by kernel_rfl)) (tp 5 (tp 6 (tp 7 (tp 8 (tp 9 (tp 10 (tp 11 (ta 12 (B false) (ta 13 (B false) (dn (nrm (jn p ⟨u,rfl⟩))))))))))))
 rintro e_ w_ ⟨Z,z0,_,rfl,d1,rfl,S,rfl⟩;refine nrm (W.ret ?_);obtain rfl:=si H;have T:=S.sD 1 [];exact r1 (qq Z ⟨T,rfl⟩)
def cH:List (Int×Int×Int):=[(768,879,3),(1155,1159,3),(1425,1469,3),(1552,1562,3),(1611,1631,3),(2325,2361,1),(2364,2364,3),(2381,2381,2),(2385,2388,3),(2392,2399,1),(2424,2431,1),(2453,2472,1),(2474,2480,1),(2482,2482,1),(2486,2489,1),(2492,2492,3),(2509,2509,2),(2524,2525,1),(2527,2527,1),(2544,2545,1),(2709,2728,1),(2730,2736,1),(2738,2739,1),(2741,2745,1),(2748,2748,3),(2765,2765,2),(2809,2809,1),(2837,2856,1),(2858,2864,1),(2866,2867,1),(2869,2873,1),(2876,2876,3),(2893,2893,2),(2908,2909,1),(2911,2911,1),(2929,2929,1),(3093,3112,1),(3114,3129,1),(3132,3132,3),(3149,3149,2),(3160,3162,1),(3349,3386,1),(3405,3405,2),(6832,6845,3),(7616,7679,3),(8205,8205,3),(8400,8412,3),(12330,12335,3),(12441,12442,3),(65056,65071,3)]
def cR:Option (List (Int×Int×Int)):=
 some cH
theorem fM (d:Own c0 G F) {r:List (Int×Int×Int)} (H:cR=some r): Calls prog 38 #[] c0.w (ay c0 fun c v=>∃a b,Own c G (es true aQ a 55 b r :: F)∧v=a∧OA aQ c a b r):=by
 unfold cR at H;refine en func38 rfl rfl (sr (va (Y) (wln (sr (va (ae 768 879 3) (va (ae 1155 1159 3) (va (ae 1425 1469 3) (va (ae 1552 1562 3) (va (ae 1611 1631 3) (va (ae 2325 2361 1) (va (ae 2364 2364 3) (va (ae 2381 2381 2) (va (ae 2385 2388 3) (va (ae 2392 2399 1) (va (ae 2424 2431 1) (va (ae 2453 2472 1) (va (ae 2474 2480 1) (va (ae 2482 2482 1) (va (ae 2486 2489 1) (va (ae 2492 2492 3) (va (ae 2509 2509 2) (va (ae 2524 2525 1) (va (ae 2527 2527 1) (va (ae 2544 2545 1) (va (ae 2709 2728 1) (va (ae 2730 2736 1) (va (ae 2738 2739 1) (va (ae 2741 2745 1) (va (ae 2748 2748 3) (va (ae 2765 2765 2) (va (ae 2809 2809 1) (va (ae 2837 2856 1) (va (ae 2858 2864 1) (va (ae 2866 2867 1) (va (ae 2869 2873 1) (va (ae 2876 2876 3) (va (ae 2893 2893 2) (va (ae 2908 2909 1) (va (ae 2911 2911 1) (va (ae 2929 2929 1) (va (ae 3093 3112 1) (va (ae 3114 3129 1) (va (ae 3132 3132 3) (va (ae 3149 3149 2) (va (ae 3160 3162 1) (va (ae 3349 3386 1) (va (ae 3405 3405 2) (va (ae 6832 6845 3) (va (ae 7616 7679 3) (va (ae 8205 8205 3) (va (ae 8400 8412 3) (va (ae 12330 12335 3) (va (ae 12441 12442 3) (va (ae 65056 65071 3) (me (Own.sl (R:=aQ) (E:=55) (ls:=cH.map (fun x=>[I x.1,I x.2.1,I x.2.2])) (vs:=(cH.map (fun x=>[I x.1,I x.2.1,I x.2.2])).flatten) (xs:=cH) true d (au _) rfl (dJ.map _ (fun _=>rfl) _) (by kernel_rfl) (by kernel_rfl)) ?_)))))))))))))))))))))))))))))))))))))))))))))))))))))));rintro v5 f i ⟨h,e,g⟩;refine va (v5) (wln (W.ret ?_));obtain rfl:=si H;exact r1 (qq f ⟨v5,h,e,rfl,g⟩)
def eJ (p0:Int) (q0_0:List (Int×Int×Int)) (q1_0:Int):Option (Bool):=
 (idx q0_0 p0).bind fun a=>
 some (decide (a.2.1≥(w64 q1_0)))
theorem jl {d:Nat} {e:Nat} (o:Own c0 G F) (b:Int) (q0_0:List (Int×Int×Int)) (q1_0:Int) {r:Bool} (s:∀j u,([v2]:List Value)[j]? = some u→Im c0 d (0+j) u) (k:Sl aQ c0 v2 q0_0) (t:∀j u,([J q1_0]:List Value)[j]? = some u→Im c0 e (0+j) u) (H:eJ b q0_0 q1_0=some r): Calls prog 64 #[I b,Q d,Q e] c0.w (ay c0 fun c v=>Own c G (F)∧v=B r):=by
 unfold eJ at H;refine en func64 rfl rfl (sr (va (B false) (wln (W.seq (rD [] (Kp G0 []) o ?_)))));intro h q p;have y:Kp G0 [] h:=Kp.nil0;refine tx 0 (fun g a=>l1 cp ((mm s) 0 _ rfl)) (ta 1 (I b) (bn H fun f l H=>?_));obtain ⟨x,i,n⟩:=Sl.at (k.mono q) (aH l);obtain rfl:=i;refine tx 2 (fun g a=>ix cp k.m l) (ta 3 (Qo (sb v2) (so v2+b.toNat * 3+1)) (tx 4 (fun g a=>l1 u_3 ((mm n) 1 _ rfl)) (tx 5 (fun g a=>l1 eC ((mm t) 0 _ rfl)) (ta 6 (I (w64 q1_0)) (ta 7 (B (decide (f.2.1≥(w64 q1_0)))) (ta 8 (B (decide (f.2.1≥(w64 q1_0)))) (dn (nrm (W.ret ?_)))))))));obtain rfl:=si H;exact r1 (qq h ⟨p,rfl⟩)
def bQ (p0:Int) (p1_0_0:List (Int×Int×Int)) (p1_1_0:Int):Option (Int):=
 (aU (σ:=Int×Int) (τ:=Int) ((p0 - 0).toNat+1) (fun a=>
 if (decide (a.1 < a.2))=true then
 (eJ (w64 ((IntKind.u64.wrap (w64 (a.1+a.2))).fdiv (2 ^ 1))) p1_0_0 p1_1_0).bind fun b=>
 if (!b)=true then
 some (.inl ((w64 ((w64 ((IntKind.u64.wrap (w64 (a.1+a.2))).fdiv (2 ^ 1)))+1)),a.2))
 else
 some (.inl (a.1,(w64 ((IntKind.u64.wrap (w64 (a.1+a.2))).fdiv (2 ^ 1)))))
 else
 some (.inr (a.1))) (0,p0)).bind fun c=>
 some c
theorem dH {b1_0:Nat} {b1_1:Nat} (A:Own c0 G F) (b:Int) (p1_0_0:List (Int×Int×Int)) (p1_1_0:Int) {r:Int} (N:∀j u,([v2]:List Value)[j]? = some u→Im c0 b1_0 (0+j) u) (M:Sl aQ c0 v2 p1_0_0) (P:∀j u,([J p1_1_0]:List Value)[j]? = some u→Im c0 b1_1 (0+j) u) (H:bQ b p1_0_0 p1_1_0=some r): Calls prog 61 #[I b,.func (.func 64) #[] #[Q b1_0,Q b1_1]] c0.w (ay c0 fun c v=>Own c G (F)∧v=I r):=by
 unfold bQ at H;refine en func61 rfl rfl (sr (va (I 0) (wln (sr (va (I b) (va (I 0) (va (I b) (wln (W.seq (W.block (bn H fun g y k=>lp y (fun a=>Jn c0 fun c l=>Own c G (F)∧l= [(1,.func (.func 64) #[] #[Q b1_0,Q b1_1]),(5,I a.1),(6,I a.2)]) (fun h ex e w=>ex= .exit 0∧(Jn c0 fun c l=>Own c G (F)∧l= [(5,I h)]) e w) ?_ ?_ ?_)))))))))))
 ·clear k y;intro a X q z H;revert q z;rintro E R ⟨D,Z,_,rfl,l7,rfl,o,rfl⟩;refine W.seq (sr (va (I a.1) (va (I a.2) (va (B (decide (a.1 < a.2))) (wln (cn H (fun s H=>?_) (fun s H=>?_)))))))
  ·refine W.skip (nrm (W.block (sr (va (I a.1) (va (I a.2) (va (I (w64 (a.1+a.2))) (va (.int .u64 (IntKind.u64.wrap (w64 (a.1+a.2)))) (va (.int .u64 ((IntKind.u64.wrap (w64 (a.1+a.2))).fdiv (2 ^ 1))) (vv (I (w64 ((IntKind.u64.wrap (w64 (a.1+a.2))).fdiv (2 ^ 1)))) (wln (sr (va (.func (.func 64) #[] #[Q b1_0,Q b1_1]) (va (I (w64 ((IntKind.u64.wrap (w64 (a.1+a.2))).fdiv (2 ^ 1)))) (bn H fun i t H=>cl (jl o (w64 ((IntKind.u64.wrap (w64 (a.1+a.2))).fdiv (2 ^ 1))) p1_0_0 p1_1_0 (mm N) M.m (mm P) t) ?_))))))))))))));rintro v20 f T ⟨d,rfl⟩;refine va (B (!i)) (wln (cn H (fun x H=>?_) (fun x H=>?_)))
   ·refine W.region (va (I (w64 ((IntKind.u64.wrap (w64 (a.1+a.2))).fdiv (2 ^ 1)))) (vv (I (w64 ((w64 ((IntKind.u64.wrap (w64 (a.1+a.2))).fdiv (2 ^ 1)))+1))) (WL.nil (bkn ?_))));obtain rfl:=si H;exact ⟨_,rfl,jn f ⟨d,rfl⟩⟩
   refine W.region (vv (I (w64 ((IntKind.u64.wrap (w64 (a.1+a.2))).fdiv (2 ^ 1)))) (WL.nil (bkn ?_)));obtain rfl:=si H;exact ⟨_,rfl,jn f ⟨d,rfl⟩⟩
  refine W.exit (thx ?_);obtain rfl:=si H;exact ⟨_,rfl,rfl,jn D ⟨o,rfl⟩⟩
 ·exact jn c0 ⟨A,rfl⟩
 rintro _ E R ⟨rfl,p,S,_,rfl,U,rfl,n,rfl⟩;refine bke (nrm (sr (vv (I g) (wln (W.ret ?_)))));obtain rfl:=si k;exact r1 (qq p ⟨n,rfl⟩)
def fZ (p0:Int):Option (Int):=
 (cR).bind fun a=>
 (bQ (a.length:Int) a p0).bind fun b=>
 (orE (b==(a.length:Int)) ((idx a b).bind fun d=>
 some (decide (d.1 > (w64 p0))))).bind fun c=>
 if c=true then
 some 0
 else
 (idx a b).bind fun e=>
 some e.2.2
theorem kB (O0:Own c0 G F) (k:Int) {r:Int} (H:fZ k=some r): Calls prog 29 #[J k] c0.w (ay c0 fun c v=>Own c G (F)∧v=I r):=by
 unfold fZ at H;refine en func29 rfl rfl (sr (me (bx 21 [J k] O0) ?_));rintro v5 c4 l4 ⟨b1,rfl,O2,m3⟩;refine va (I 0) (wln (sr (bn H fun i h6 H=>cl (fM O2 h6) ?_)));rintro v7 d1 j1 ⟨_,u8,T,rfl,s⟩;refine me (al 53 [Y] T) ?_;rintro v19 e1 M ⟨y,rfl,U⟩;obtain ⟨b,d,e,rfl⟩:=((s.mono M)).form;refine md (sC 53 0 (.slice b d e) [.slice b d e] 0 U ⟨s.m.one,trivial⟩) ?_;rintro f1 m0 t;refine wln (sr (vx (le1 0 cp (t.on 0 rfl)) (vx (lnO 3 cp s.m) ?_)));obtain ⟨g1,g0,k1,X,g⟩:=t.frz 1 rfl (s.mono (M.trans m0));refine WL.gh g0 ?_;obtain ⟨h1,h0,N,Z,n⟩:=Own.frzB 0 X rfl;refine WL.gh h0 ?_;have a0:=Z.sD 2 [1];refine va (.func (.func 64) #[] #[Q y,Q b1]) (bn H fun a i0 H=>cl (dH a0 (i.length:Int) i k n g.m (mm m3) i0) ?_);rintro v40 f0 P ⟨b0,rfl⟩;refine va (I a) (wln (W.seq (W.seq (bn H fun R A H=>W.join (Jn f0 fun c l=>Own c G (es false aQ (.slice b d e) 55 u8 i :: F)∧l= [(3,Q y),(4,I a),(23,B R)]) ?_ ?_))))
 ·clear H;refine rD [] (Kp G0 []) b0 ?_;intro p o0 u;have m1:Kp G0 [] p:=Kp.nil0;refine ta 0 (I a) (tx 1 (fun j f=>l1 cp ((mm n) 0 _ rfl)) (tx 2 (fun j f=>ln 3 cp g.m) (ta 3 (B (a==(i.length:Int))) ?_)));rcases bo (a==(i.length:Int)) with h | h
  ·obtain rfl:=orT h A;exact AC.takeb 4 h rfl (by kernel_rfl) (by kernel_rfl) (fun j f=>(by kernel_rfl)) (tp 5 (tp 6 (tp 7 (tp 8 (tp 9 (tp 10 (tp 11 (tp 12 (ta 13 (B true) (dn (nrm (jn p ⟨u,rfl⟩))))))))))))
  have o:=orF h A;refine bn o fun q D o=>AC.takeb 4 h rfl (by kernel_rfl) (by kernel_rfl) (fun j f=>(by kernel_rfl)) (tx 5 (fun j f=>l1 cp ((mm n) 0 _ rfl)) (ta 6 (I a) ?_));obtain ⟨z0,j0,t0⟩:=Sl.at (g.mono (N.trans (P.trans o0))) (aH D);obtain rfl:=j0;refine tx 7 (fun j f=>ix cp g.m D) (ta 8 (Qo (sb (.slice b d e)) (so (.slice b d e)+a.toNat * 3)) (tx 9 (fun j f=>l1 u_3 ((mm t0) 0 _ rfl)) (tx 10 (fun j f=>l1 eC ((mm m3) 0 _ rfl)) (ta 11 (I (w64 k)) (ta 12 (B (decide (q.1 > (w64 k)))) ?_)))));obtain rfl:=si o;exact ta 13 (B (decide (q.1 > (w64 k)))) (dn (nrm (jn p ⟨u,rfl⟩)))
 rintro e_ w_ ⟨z,i1,_,rfl,q0,rfl,x,rfl⟩;refine nrm (cn H (fun k0 H=>?_) (fun k0 H=>?_))
 ·refine sr (va (I 0) (wln (W.ret (thr ?_))));obtain rfl:=si H;have d0:=x.sD 1 [];exact r1 (qq z ⟨d0,rfl⟩)
 refine W.skip (nrm (sr (vx (l1 cp ((mm n) 0 _ rfl)) (va (I a) (bn H fun S E H=>?_)))));obtain ⟨a1,l0,u0⟩:=Sl.at (g.mono (N.trans (P.trans q0))) (aH E);obtain rfl:=l0;refine vx (ix cp g.m E) (va (Qo (sb (.slice b d e)) (so (.slice b d e)+a.toNat * 3+2)) (vx (l1 u_3 (u0 2 _ rfl)) (va (I S.2.2) (wln (W.ret ?_)))));obtain rfl:=si H;have e0:=x.sD 1 [];exact r1 (qq z ⟨e0,rfl⟩)
def cx:List (Int×Int×Int):=[(4352,4447,1),(8361,8361,3),(8986,8987,1),(9001,9002,1),(9193,9196,1),(9200,9200,1),(9203,9203,1),(9725,9726,1),(9748,9749,1),(9800,9811,1),(9855,9855,1),(9875,9875,1),(9889,9889,1),(9898,9899,1),(9917,9918,1),(9924,9925,1),(9934,9934,1),(9940,9940,1),(9962,9962,1),(9970,9971,1),(9973,9973,1),(9978,9978,1),(9981,9981,1),(9989,9989,1),(9994,9995,1),(10024,10024,1),(10060,10060,1),(10062,10062,1),(10067,10069,1),(10071,10071,1),(10133,10135,1),(10160,10160,1),(10175,10175,1),(11035,11036,1),(11088,11088,1),(11093,11093,1),(11904,11929,1),(11931,12019,1),(12032,12245,1),(12272,12287,1),(12288,12288,2),(12289,12350,1),(12353,12438,1),(12441,12543,1),(12549,12591,1),(12593,12686,1),(12688,12771,1),(12784,12830,1),(12832,12871,1),(12880,19903,1),(19968,42124,1),(42128,42182,1),(43360,43388,1),(44032,55203,1),(63744,64255,1),(65040,65049,1),(65072,65106,1),(65108,65126,1),(65128,65131,1),(65281,65376,2),(65377,65470,3),(65474,65479,3),(65482,65487,3),(65490,65495,3),(65498,65500,3),(65504,65510,2),(65512,65518,3),(94176,94180,1),(94208,100343,1),(100352,101589,1),(110592,110882,1),(126980,126980,1),(127183,127183,1),(127374,127374,1),(127377,127386,1),(127488,127490,1),(127504,127547,1),(127552,127560,1),(127568,127569,1),(127584,127589,1),(127744,127776,1),(127789,127797,1),(127799,127868,1),(127870,127891,1),(127904,127946,1),(127951,127955,1),(127968,127984,1),(127988,127988,1),(127992,128062,1),(128064,128064,1),(128066,128252,1),(128255,128317,1),(128331,128334,1),(128336,128359,1),(128378,128378,1),(128405,128406,1),(128420,128420,1),(128507,128591,1),(128640,128709,1),(128716,128716,1),(128720,128722,1),(128725,128727,1),(128732,128735,1),(128747,128748,1),(128756,128764,1),(128992,129003,1),(129008,129008,1),(129292,129338,1),(129340,129349,1),(129351,129535,1),(129648,129660,1),(129664,129672,1),(129680,129725,1),(129727,129733,1),(129742,129755,1),(129760,129768,1),(129776,129784,1),(131072,196605,1),(196608,262141,1)]
def cQ:Option (List (Int×Int×Int)):=
 some cx
theorem fL (d:Own c0 G F) {r:List (Int×Int×Int)} (H:cQ=some r): Calls prog 39 #[] c0.w (ay c0 fun c v=>∃a b,Own c G (es true aQ a 55 b r :: F)∧v=a∧OA aQ c a b r):=by
 unfold cQ at H;refine en func39 rfl rfl (sr (va (Y) (wln (sr (va (ae 4352 4447 1) (va (ae 8361 8361 3) (va (ae 8986 8987 1) (va (ae 9001 9002 1) (va (ae 9193 9196 1) (va (ae 9200 9200 1) (va (ae 9203 9203 1) (va (ae 9725 9726 1) (va (ae 9748 9749 1) (va (ae 9800 9811 1) (va (ae 9855 9855 1) (va (ae 9875 9875 1) (va (ae 9889 9889 1) (va (ae 9898 9899 1) (va (ae 9917 9918 1) (va (ae 9924 9925 1) (va (ae 9934 9934 1) (va (ae 9940 9940 1) (va (ae 9962 9962 1) (va (ae 9970 9971 1) (va (ae 9973 9973 1) (va (ae 9978 9978 1) (va (ae 9981 9981 1) (va (ae 9989 9989 1) (va (ae 9994 9995 1) (va (ae 10024 10024 1) (va (ae 10060 10060 1) (va (ae 10062 10062 1) (va (ae 10067 10069 1) (va (ae 10071 10071 1) (va (ae 10133 10135 1) (va (ae 10160 10160 1) (va (ae 10175 10175 1) (va (ae 11035 11036 1) (va (ae 11088 11088 1) (va (ae 11093 11093 1) (va (ae 11904 11929 1) (va (ae 11931 12019 1) (va (ae 12032 12245 1) (va (ae 12272 12287 1) (va (ae 12288 12288 2) (va (ae 12289 12350 1) (va (ae 12353 12438 1) (va (ae 12441 12543 1) (va (ae 12549 12591 1) (va (ae 12593 12686 1) (va (ae 12688 12771 1) (va (ae 12784 12830 1) (va (ae 12832 12871 1) (va (ae 12880 19903 1) (va (ae 19968 42124 1) (va (ae 42128 42182 1) (va (ae 43360 43388 1) (va (ae 44032 55203 1) (va (ae 63744 64255 1) (va (ae 65040 65049 1) (va (ae 65072 65106 1) (va (ae 65108 65126 1) (va (ae 65128 65131 1) (va (ae 65281 65376 2) (va (ae 65377 65470 3) (va (ae 65474 65479 3) (va (ae 65482 65487 3) (va (ae 65490 65495 3) (va (ae 65498 65500 3) (va (ae 65504 65510 2) (va (ae 65512 65518 3) (va (ae 94176 94180 1) (va (ae 94208 100343 1) (va (ae 100352 101589 1) (va (ae 110592 110882 1) (va (ae 126980 126980 1) (va (ae 127183 127183 1) (va (ae 127374 127374 1) (va (ae 127377 127386 1) (va (ae 127488 127490 1) (va (ae 127504 127547 1) (va (ae 127552 127560 1) (va (ae 127568 127569 1) (va (ae 127584 127589 1) (va (ae 127744 127776 1) (va (ae 127789 127797 1) (va (ae 127799 127868 1) (va (ae 127870 127891 1) (va (ae 127904 127946 1) (va (ae 127951 127955 1) (va (ae 127968 127984 1) (va (ae 127988 127988 1) (va (ae 127992 128062 1) (va (ae 128064 128064 1) (va (ae 128066 128252 1) (va (ae 128255 128317 1) (va (ae 128331 128334 1) (va (ae 128336 128359 1) (va (ae 128378 128378 1) (va (ae 128405 128406 1) (va (ae 128420 128420 1) (va (ae 128507 128591 1) (va (ae 128640 128709 1) (va (ae 128716 128716 1) (va (ae 128720 128722 1) (va (ae 128725 128727 1) (va (ae 128732 128735 1) (va (ae 128747 128748 1) (va (ae 128756 128764 1) (va (ae 128992 129003 1) (va (ae 129008 129008 1) (va (ae 129292 129338 1) (va (ae 129340 129349 1) (va (ae 129351 129535 1) (va (ae 129648 129660 1) (va (ae 129664 129672 1) (va (ae 129680 129725 1) (va (ae 129727 129733 1) (va (ae 129742 129755 1) (va (ae 129760 129768 1) (va (ae 129776 129784 1) (va (ae 131072 196605 1) (va (ae 196608 262141 1) (me (Own.sl (R:=aQ) (E:=55) (ls:=cx.map (fun x=>[I x.1,I x.2.1,I x.2.2])) (vs:=(cx.map (fun x=>[I x.1,I x.2.1,I x.2.2])).flatten) (xs:=cx) true d (au _) rfl (dJ.map _ (fun _=>rfl) _) (by kernel_rfl) (by kernel_rfl)) ?_))))))))))))))))))))))))))))))))))))))))))))))))))))))))))))))))))))))))))))))))))))))))))))))))))))))))))))))))))))))))))));rintro v5 f i ⟨h,e,g⟩;refine va (v5) (wln (W.ret ?_));obtain rfl:=si H;exact r1 (qq f ⟨v5,h,e,rfl,g⟩)
def eH (p0:Int) (q0_0:List (Int×Int×Int)) (q1_0:Int):Option (Bool):=
 (idx q0_0 p0).bind fun a=>
 some (decide (a.2.1≥(w64 q1_0)))
theorem jk {d:Nat} {e:Nat} (o:Own c0 G F) (b:Int) (q0_0:List (Int×Int×Int)) (q1_0:Int) {r:Bool} (s:∀j u,([v2]:List Value)[j]? = some u→Im c0 d (0+j) u) (k:Sl aQ c0 v2 q0_0) (t:∀j u,([J q1_0]:List Value)[j]? = some u→Im c0 e (0+j) u) (H:eH b q0_0 q1_0=some r): Calls prog 65 #[I b,Q d,Q e] c0.w (ay c0 fun c v=>Own c G (F)∧v=B r):=by
 unfold eH at H;refine en func65 rfl rfl (sr (va (B false) (wln (W.seq (rD [] (Kp G0 []) o ?_)))));intro h q p;have y:Kp G0 [] h:=Kp.nil0;refine tx 0 (fun g a=>l1 cp ((mm s) 0 _ rfl)) (ta 1 (I b) (bn H fun f l H=>?_));obtain ⟨x,i,n⟩:=Sl.at (k.mono q) (aH l);obtain rfl:=i;refine tx 2 (fun g a=>ix cp k.m l) (ta 3 (Qo (sb v2) (so v2+b.toNat * 3+1)) (tx 4 (fun g a=>l1 u_3 ((mm n) 1 _ rfl)) (tx 5 (fun g a=>l1 eC ((mm t) 0 _ rfl)) (ta 6 (I (w64 q1_0)) (ta 7 (B (decide (f.2.1≥(w64 q1_0)))) (ta 8 (B (decide (f.2.1≥(w64 q1_0)))) (dn (nrm (W.ret ?_)))))))));obtain rfl:=si H;exact r1 (qq h ⟨p,rfl⟩)
def bP (p0:Int) (p1_0_0:List (Int×Int×Int)) (p1_1_0:Int):Option (Int):=
 (aU (σ:=Int×Int) (τ:=Int) ((p0 - 0).toNat+1) (fun a=>
 if (decide (a.1 < a.2))=true then
 (eH (w64 ((IntKind.u64.wrap (w64 (a.1+a.2))).fdiv (2 ^ 1))) p1_0_0 p1_1_0).bind fun b=>
 if (!b)=true then
 some (.inl ((w64 ((w64 ((IntKind.u64.wrap (w64 (a.1+a.2))).fdiv (2 ^ 1)))+1)),a.2))
 else
 some (.inl (a.1,(w64 ((IntKind.u64.wrap (w64 (a.1+a.2))).fdiv (2 ^ 1)))))
 else
 some (.inr (a.1))) (0,p0)).bind fun c=>
 some c
theorem dG {b1_0:Nat} {b1_1:Nat} (A:Own c0 G F) (b:Int) (p1_0_0:List (Int×Int×Int)) (p1_1_0:Int) {r:Int} (N:∀j u,([v2]:List Value)[j]? = some u→Im c0 b1_0 (0+j) u) (M:Sl aQ c0 v2 p1_0_0) (P:∀j u,([J p1_1_0]:List Value)[j]? = some u→Im c0 b1_1 (0+j) u) (H:bP b p1_0_0 p1_1_0=some r): Calls prog 61 #[I b,.func (.func 65) #[] #[Q b1_0,Q b1_1]] c0.w (ay c0 fun c v=>Own c G (F)∧v=I r):=by
 unfold bP at H;refine en func61 rfl rfl (sr (va (I 0) (wln (sr (va (I b) (va (I 0) (va (I b) (wln (W.seq (W.block (bn H fun g y k=>lp y (fun a=>Jn c0 fun c l=>Own c G (F)∧l= [(1,.func (.func 65) #[] #[Q b1_0,Q b1_1]),(5,I a.1),(6,I a.2)]) (fun h ex e w=>ex= .exit 0∧(Jn c0 fun c l=>Own c G (F)∧l= [(5,I h)]) e w) ?_ ?_ ?_)))))))))))
 ·clear k y;intro a X q z H;revert q z;rintro E R ⟨D,Z,_,rfl,l7,rfl,o,rfl⟩;refine W.seq (sr (va (I a.1) (va (I a.2) (va (B (decide (a.1 < a.2))) (wln (cn H (fun s H=>?_) (fun s H=>?_)))))))
  ·refine W.skip (nrm (W.block (sr (va (I a.1) (va (I a.2) (va (I (w64 (a.1+a.2))) (va (.int .u64 (IntKind.u64.wrap (w64 (a.1+a.2)))) (va (.int .u64 ((IntKind.u64.wrap (w64 (a.1+a.2))).fdiv (2 ^ 1))) (vv (I (w64 ((IntKind.u64.wrap (w64 (a.1+a.2))).fdiv (2 ^ 1)))) (wln (sr (va (.func (.func 65) #[] #[Q b1_0,Q b1_1]) (va (I (w64 ((IntKind.u64.wrap (w64 (a.1+a.2))).fdiv (2 ^ 1)))) (bn H fun i t H=>cl (jk o (w64 ((IntKind.u64.wrap (w64 (a.1+a.2))).fdiv (2 ^ 1))) p1_0_0 p1_1_0 (mm N) M.m (mm P) t) ?_))))))))))))));rintro v20 f T ⟨d,rfl⟩;refine va (B (!i)) (wln (cn H (fun x H=>?_) (fun x H=>?_)))
   ·refine W.region (va (I (w64 ((IntKind.u64.wrap (w64 (a.1+a.2))).fdiv (2 ^ 1)))) (vv (I (w64 ((w64 ((IntKind.u64.wrap (w64 (a.1+a.2))).fdiv (2 ^ 1)))+1))) (WL.nil (bkn ?_))));obtain rfl:=si H;exact ⟨_,rfl,jn f ⟨d,rfl⟩⟩
   refine W.region (vv (I (w64 ((IntKind.u64.wrap (w64 (a.1+a.2))).fdiv (2 ^ 1)))) (WL.nil (bkn ?_)));obtain rfl:=si H;exact ⟨_,rfl,jn f ⟨d,rfl⟩⟩
  refine W.exit (thx ?_);obtain rfl:=si H;exact ⟨_,rfl,rfl,jn D ⟨o,rfl⟩⟩
 ·exact jn c0 ⟨A,rfl⟩
 rintro _ E R ⟨rfl,p,S,_,rfl,U,rfl,n,rfl⟩;refine bke (nrm (sr (vv (I g) (wln (W.ret ?_)))));obtain rfl:=si k;exact r1 (qq p ⟨n,rfl⟩)
def fY (p0:Int):Option (Int):=
 (cQ).bind fun a=>
 (bP (a.length:Int) a p0).bind fun b=>
 (orE (b==(a.length:Int)) ((idx a b).bind fun d=>
 some (decide (d.1 > (w64 p0))))).bind fun c=>
 if c=true then
 some 0
 else
 (idx a b).bind fun e=>
 some e.2.2
theorem kA (O0:Own c0 G F) (k:Int) {r:Int} (H:fY k=some r): Calls prog 30 #[J k] c0.w (ay c0 fun c v=>Own c G (F)∧v=I r):=by
 unfold fY at H;refine en func30 rfl rfl (sr (me (bx 21 [J k] O0) ?_));rintro v5 c4 l4 ⟨b1,rfl,O2,m3⟩;refine va (I 0) (wln (sr (bn H fun i h6 H=>cl (fL O2 h6) ?_)));rintro v7 d1 j1 ⟨_,u8,T,rfl,s⟩;refine me (al 53 [Y] T) ?_;rintro v19 e1 M ⟨y,rfl,U⟩;obtain ⟨b,d,e,rfl⟩:=((s.mono M)).form;refine md (sC 53 0 (.slice b d e) [.slice b d e] 0 U ⟨s.m.one,trivial⟩) ?_;rintro f1 m0 t;refine wln (sr (vx (le1 0 cp (t.on 0 rfl)) (vx (lnO 3 cp s.m) ?_)));obtain ⟨g1,g0,k1,X,g⟩:=t.frz 1 rfl (s.mono (M.trans m0));refine WL.gh g0 ?_;obtain ⟨h1,h0,N,Z,n⟩:=Own.frzB 0 X rfl;refine WL.gh h0 ?_;have a0:=Z.sD 2 [1];refine va (.func (.func 65) #[] #[Q y,Q b1]) (bn H fun a i0 H=>cl (dG a0 (i.length:Int) i k n g.m (mm m3) i0) ?_);rintro v40 f0 P ⟨b0,rfl⟩;refine va (I a) (wln (W.seq (W.seq (bn H fun R A H=>W.join (Jn f0 fun c l=>Own c G (es false aQ (.slice b d e) 55 u8 i :: F)∧l= [(3,Q y),(4,I a),(23,B R)]) ?_ ?_))))
 ·clear H;refine rD [] (Kp G0 []) b0 ?_;intro p o0 u;have m1:Kp G0 [] p:=Kp.nil0;refine ta 0 (I a) (tx 1 (fun j f=>l1 cp ((mm n) 0 _ rfl)) (tx 2 (fun j f=>ln 3 cp g.m) (ta 3 (B (a==(i.length:Int))) ?_)));rcases bo (a==(i.length:Int)) with h | h
  ·obtain rfl:=orT h A;exact AC.takeb 4 h rfl (by kernel_rfl) (by kernel_rfl) (fun j f=>(by kernel_rfl)) (tp 5 (tp 6 (tp 7 (tp 8 (tp 9 (tp 10 (tp 11 (tp 12 (ta 13 (B true) (dn (nrm (jn p ⟨u,rfl⟩))))))))))))
  have o:=orF h A;refine bn o fun q D o=>AC.takeb 4 h rfl (by kernel_rfl) (by kernel_rfl) (fun j f=>(by kernel_rfl)) (tx 5 (fun j f=>l1 cp ((mm n) 0 _ rfl)) (ta 6 (I a) ?_));obtain ⟨z0,j0,t0⟩:=Sl.at (g.mono (N.trans (P.trans o0))) (aH D);obtain rfl:=j0;refine tx 7 (fun j f=>ix cp g.m D) (ta 8 (Qo (sb (.slice b d e)) (so (.slice b d e)+a.toNat * 3)) (tx 9 (fun j f=>l1 u_3 ((mm t0) 0 _ rfl)) (tx 10 (fun j f=>l1 eC ((mm m3) 0 _ rfl)) (ta 11 (I (w64 k)) (ta 12 (B (decide (q.1 > (w64 k)))) ?_)))));obtain rfl:=si o;exact ta 13 (B (decide (q.1 > (w64 k)))) (dn (nrm (jn p ⟨u,rfl⟩)))
 rintro e_ w_ ⟨z,i1,_,rfl,q0,rfl,x,rfl⟩;refine nrm (cn H (fun k0 H=>?_) (fun k0 H=>?_))
 ·refine sr (va (I 0) (wln (W.ret (thr ?_))));obtain rfl:=si H;have d0:=x.sD 1 [];exact r1 (qq z ⟨d0,rfl⟩)
 refine W.skip (nrm (sr (vx (l1 cp ((mm n) 0 _ rfl)) (va (I a) (bn H fun S E H=>?_)))));obtain ⟨a1,l0,u0⟩:=Sl.at (g.mono (N.trans (P.trans q0))) (aH E);obtain rfl:=l0;refine vx (ix cp g.m E) (va (Qo (sb (.slice b d e)) (so (.slice b d e)+a.toNat * 3+2)) (vx (l1 u_3 (u0 2 _ rfl)) (va (I S.2.2) (wln (W.ret ?_)))));obtain rfl:=si H;have e0:=x.sD 1 [];exact r1 (qq z ⟨e0,rfl⟩)
def fH (p0:Int):Option (av):=
 (gJ p0).bind fun b=>
 (fX p0).bind fun c=>
 (fZ p0).bind fun d=>
 (fY p0).bind fun a=>
 some (⟨b,c,d,a⟩:av)
theorem jg (p:Own c0 G F) (a:Int) {r:av} (H:fH a=some r): Calls prog 10 #[J a] c0.w (ay c0 fun c v=>Own c G (F)∧v= .agg #[I r.Break,B r.Pict,I r.Conj,I r.East]):=by
 unfold fH at H;refine en func10 rfl rfl (sr (me (al 28 [I 0,B false,I 0,I 0] p) ?_));rintro v4 R S ⟨P,rfl,q⟩;refine wln (sr (va (J a) (bn H fun d t H=>cl (lL q a t) ?_)));rintro v11 u A ⟨s,rfl⟩;refine va (J a) (bn H fun e m H=>cl (kz s a m) ?_);rintro v18 x D ⟨i,rfl⟩;refine va (J a) (bn H fun f n H=>cl (kB i a n) ?_);rintro v25 y E ⟨j,rfl⟩;refine va (J a) (bn H fun b o H=>cl (kA j a o) ?_);rintro v32 z M ⟨k,rfl⟩;refine va (.agg #[I d,B e,I f,I b]) (md (sA 28 [I d,B e,I f,I b] 0 k ⟨rfl,rfl,rfl,rfl,trivial⟩) ?_);rintro h N g;refine wln (W.ret ?_);obtain rfl:=si H;have l:=g.sD 1 [];exact kp (c:=h) (vs:=[I d,B e,I f,I b]) rfl (by kernel_rfl) (by kernel_rfl) (by kernel_rfl) (g.on 0 rfl _ rfl).1 ⟨_,h,rfl,rfl,pt,l,rfl⟩
end Go.Proofs.Ytjghgpnafaoojaa
namespace Go.Proofs.Ytjghgpnafaoojaa
open Go Go.Lt
set_option maxRecDepth 10000
set_option linter.unusedVariables false
attribute [local irreducible] W WL AC
theorem Own.putRow {c:Cx} {G:Gm} {F:List En} {E:TypeId} {vs:List Value} {xs:List Int} {b cap:Nat} (O:Own c G (es true (RI .i64) (.slice (some ⟨b,0,none⟩) xs.length cap) E vs xs :: F)) (hc:xs.length≤cap∧cap≤maxLen∧cap≤vs.length)
  (d ys:List Int) (hd:d.length=xs.length) (hy:∃z,d=ys++z) (n:Nat) (os:Array Obj):
  ∃c' us,c'.w=Sort.grow (Sort.putRow (Value.int .i64) (Sort.ahead c.w n) b 0 d.toArray) os∧c.le c'∧Own c' G (es true (RI .i64) (.slice (some ⟨b,0,none⟩) ys.length cap) E us ys :: F)∧OA (RI .i64) c' (.slice (some ⟨b,0,none⟩) ys.length cap) us ys:=by
 obtain ⟨hb,hA⟩:=(O.on 0 rfl).ce (b:=b) rfl;simp only [es,mI] at hb hA;have hlt:b < c.w.heap.size:=(Array.getElem?_eq_some_iff.1 hb).1;obtain ⟨us,hus⟩:∃us,us=(Sort.putCells (Value.int .i64) 0 d.toArray vs.toArray).toList:=⟨_,rfl⟩;have hul:us.length=vs.length:=by rw [hus]; simp [Sort.putCells]
 have hget:∀i,i < d.length→us[i]? = some (.int .i64 d[i]!):=fun i hi=>by
  have hv:i < vs.length:=by omega
  rw [hus];simp only [Sort.putCells,Array.getElem?_toList,Array.getElem?_mapIdx,aB,ai hv,kH,jp,aG,cC,nJ,ad hi,Nat.sub_zero];simp [hi]
 have hh:∀k,k < c.w.heap.size→(Sort.grow (Sort.putRow (Value.int .i64) (Sort.ahead c.w n) b 0 d.toArray) os).heap[k]? = if b=k then some (.cells us.toArray E (0,0)) else c.w.heap[k]? :=fun k hk=>by
  simp only [Sort.grow,Sort.putRow,Sort.mapBlock,Sort.ahead];rw [Array.getElem?_append_left (by simpa using hk),Array.getElem?_modify];split
  ·rename_i e
   subst e;rw [hb];simp [Sort.onCells,hus]
  ·rfl
 refine ⟨⟨_,fun k o=>k < c.w.heap.size∧c.A k o,c.t⟩,us,rfl,?_⟩;have hbut:c.but (fun k=>k=b) ⟨Sort.grow (Sort.putRow (Value.int .i64) (Sort.ahead c.w n) b 0 d.toArray) os,fun k o=>k < c.w.heap.size∧c.A k o,c.t⟩:=by
  have hne:∀k o,¬c.A k o→b≠k:=fun k o h e=>h (by subst e; exact (hA o).2 (aG _));have hk:∀k,k < c.w.heap.size→b≠k→(Sort.grow (Sort.putRow (Value.int .i64) (Sort.ahead c.w n) b 0 d.toArray) os).heap[k]? = c.w.heap[k]? :=fun k h1 h2=>by rw [hh k h1,af h2]
  refine ⟨⟨rfl,rfl,by simp [Sort.grow,Sort.putRow,Sort.mapBlock,Sort.ahead],fun k o h1 h2=>⟨cU (w:=c.w) (a:=⟨k,o,none⟩) (hk k h1 (hne k o h2)),fun h=>h2 h.2⟩,fun k h1 h2=>hk k h1 (hne k 0 (h2 0)),fun a h1 h2=>?_,fun _ _ _ h=>h⟩,rfl,fun k h1 h2=>⟨hk k h1 (nB h2),fun o=>⟨fun h=>h.2,fun h=>⟨h1,h⟩⟩⟩⟩;simp only [World.frozen?,hk _ h1 (hne _ _ h2)]
 refine ⟨hbut.le,Own.set O 0 rfl hbut (fun b' hb'=>by rw [hb']; rfl) (e':=es true (RI .i64) (.slice (some ⟨b,0,none⟩) ys.length cap) E us ys) (fun b' hb'=>?_) (fun b' hb'=> .inl hb'),by decide,.inr ⟨b,cap,rfl,?_,hc.2.1,?_⟩,fun i x hx=>?_⟩
 ·simp only [es,bk,aq] at hb';subst hb';exact ⟨(hh b hlt).trans (by rw [ad rfl]; rfl),fun o=>⟨fun _=>aG _,fun _=>⟨hlt,(hA o).2 (aG _)⟩⟩⟩
 ·obtain ⟨z,rfl⟩:=hy;rw [am] at hd;omega
 ·show cap * 1≤us.length;omega
 ·obtain ⟨z,rfl⟩:=hy;have hi:=(List.getElem?_eq_some_iff.1 hx).1;have h1:=hget i (by rw [am]; omega);have h2:(ys++z)[i]! = x:=by
   rw [getElem!_pos _ i (by rw [am]; omega),mD hi];exact (List.getElem?_eq_some_iff.1 hx).2
  rw [h2] at h1;show (us.drop (i * 1)).take 1= [.int .i64 x];rw [gN];obtain ⟨h3,h4⟩:=List.getElem?_eq_some_iff.1 h1;rw [aA h3,h4];rfl
theorem OA.holds {c:Cx} {G:Gm} {F:List En} {E:TypeId} {vs:List Value} {xs:List Int} {b cap:Nat} (O:Own c G (es true (RI .i64) (.slice (some ⟨b,0,none⟩) xs.length cap) E vs xs :: F)) (hc:cap≤vs.length∧xs.length≤cap) (h:AR (RI .i64) c vs xs):Sort.Holds (Value.int .i64) c.w b 0 xs.toArray:=fun j hj=>by
 obtain ⟨hb,_⟩:=(O.on 0 rfl).ce (b:=b) rfl;simp only [es,mI] at hb;have hj':j < xs.length:=by simpa using hj
 have h1:(vs.drop (j * 1)).take 1= [.int .i64 xs[j]]:=h j xs[j] (ai hj');rw [gN] at h1;have hv:j < vs.length:=by omega
 rw [aA hv] at h1;simp only [List.take_succ_cons,List.take_zero,pL,and_true] at h1;refine ⟨?_,?_⟩
 ·rw [cC,fe _ _ _ _ _ _ hb,aB,ai hv,h1];simp [hj']
 ·simp [World.frozen?,hb]
def jA (x:Int):List Int→List Int
 | []=>[x]
 | y :: l=>if x≤y then x :: y :: l else y :: jA x l
def srt:List Int→List Int
 | []=>[]
 | x :: l=>jA x (srt l)
theorem hY (x:Int) (l:List Int):(jA x l).Perm (x :: l):=by
 induction l with
 | nil=>exact .refl _
 | cons y l ih=>
  unfold jA;split
  ·exact .refl _
  ·exact (ih.cons y).trans (.swap x y l)
theorem fB (l:List Int):(srt l).Perm l:=by
 induction l with
 | nil=>exact .refl _
 | cons x l ih=>exact (hY x _).trans (ih.cons x)
theorem iX (x:Int) (l:List Int) (h:l.Pairwise (fun a b=>a≤b)):(jA x l).Pairwise (fun a b=>a≤b):=by
 induction l with
 | nil=>simp [jA]
 | cons y l ih=>
  rw [bX] at h;unfold jA;split
  ·rename_i hxy
   rw [bX,bX];refine ⟨fun z hz=>?_,h.1,h.2⟩;rcases List.mem_cons.1 hz with rfl | hz
   ·exact hxy
   ·exact jr hxy (h.1 z hz)
  ·rename_i hxy
   rw [bX];refine ⟨fun z hz=>?_,ih h.2⟩;rcases List.mem_cons.1 ((hY x l).mem_iff.1 hz) with rfl | hz
   ·omega
   ·exact h.1 z hz
theorem gA (l:List Int):(srt l).Pairwise (fun a b=>a≤b):=by
 induction l with
 | nil=>exact .nil
 | cons x l ih=>exact iX x _ ih
theorem mR (l:List Int):(l.mergeSort fun x y=>decide (x≤y))=srt l:=by
 refine List.Perm.eq_of_pairwise (le:=fun a b:Int=>a≤b) (fun a b _ _ h1 h2=>by omega) ?_ (gA l) ((List.mergeSort_perm l _).trans (fB l).symm);refine (List.pairwise_mergeSort (fun a b c h1 h2=>?_) (fun a b=>?_) l).imp fun h=>by simpa using h
 ·simp only [ag] at h1 h2⊢; omega
 ·simp only [cg,ag]; omega
def dd (p0:List Int):Option (List Int):=if p0.length≤1099511627776 then some (srt p0) else none
def iy:Go.Shelf.Ren:=⟨fun | 0=>0 | 1=>1 | 2=>2 | 125=>75 | 128=>86 | 129=>87 | 189=>66 | 215=>93 | 216=>83 | 257=>74 | 294=>77 | 295=>78 | 296=>79 | 297=>80 | 298=>81 | 299=>82 | 300=>84 | 301=>85 | 328=>88 | 329=>89 | 330=>90 | 331=>91 | 332=>92 | 343=>94 | 347=>95 | 348=>96 | 349=>97 | 350=>98 | 351=>99 | 352=>100 | 353=>101 | 354=>102 | 355=>103 | 356=>104 | 357=>105 | 358=>106 | 359=>107 | 360=>108 | 361=>109 | 366=>110 | n=>n,fun | 0=>0 | 1=>1 | 2=>2 | 3=>3 | 4=>4 | 5=>5 | 6=>6 | 7=>7 | 8=>8 | 9=>9 | 10=>10 | 11=>11 | 12=>12 | 13=>13 | 14=>14 | 15=>15 | 16=>16 | 17=>17 | 18=>18 | 19=>19 | 20=>20 | 21=>21 | 28=>47 | 35=>81 | 39=>42 | 40=>43 | 46=>91 | 47=>93 | 49=>65 | 51=>103 | 52=>102 | 53=>105 | 54=>104 | 80=>115 | 81=>26 | 111=>80 | 112=>99 | 114=>44 | 127=>124 | 131=>84 | 132=>85 | 134=>92 | 164=>129 | 181=>94 | 182=>95 | 183=>96 | 184=>97 | 185=>98 | 186=>100 | 187=>101 | 218=>106 | 219=>107 | 220=>108 | 221=>109 | 222=>110 | 223=>111 | 228=>112 | 229=>113 | 230=>114 | 238=>116 | 239=>117 | 240=>118 | 241=>119 | 242=>120 | 243=>121 | 244=>122 | 245=>123 | 246=>125 | 247=>126 | 248=>127 | 249=>128 | n=>n,fun | n=>n⟩
theorem iW:Go.Proofs.Lays.n189 Try.prog iy:=by
 constructor <;> first | kernel_rfl | (intro w; kernel_rfl) | (constructor <;> first | kernel_rfl | (intro w; kernel_rfl))
theorem gY {c0:Cx} {G:Gm} {F:List En} {v1:Value} {u1:List Value} (p0:List Int) (O0:Own c0 G (es true (RI .i64) v1 3 u1 p0 :: F)) (h1:OA (RI .i64) c0 v1 u1 p0) {r:List Int} (H:dd p0=some r): Calls Try.prog 66 #[v1] c0.w (ay c0 fun c v=>∃y1:List Value,Own c G (es true (RI .i64) v1 3 y1 r :: F)∧v= .tuple #[]∧OA (RI .i64) c v1 y1 r):=by
 unfold dd at H;split at H
 (case isFalse=>cases H);rename_i hfar;obtain rfl:=kG H;have hlen:(srt p0).length=p0.length:=(fB p0).length_eq;rcases h1.2.1 with ⟨rfl,rfl⟩ | ⟨g,cap,rfl,a1,a2,a3⟩
 ·refine (Go.Proofs.Any.slices_Sort_int_none iW none 0 c0.w).mono ?_;rintro e w' ⟨rfl,rfl⟩;exact ⟨_,c0,rfl,rfl,Cx.le.refl _,u1,O0,rfl,h1⟩
 ·have a3':cap≤u1.length:=by have:cap * 1≤u1.length:=a3; omega
  refine (Go.Proofs.Any.slices_Sort_int iW g 0 cap p0 c0.w (OA.holds O0 ⟨a3',a1⟩ h1.2.2) (Array.getElem?_eq_some_iff.1 (O0.on 0 rfl g rfl).1).1 (by omega)).mono ?_;rintro e w' ⟨rfl,n,os,rfl⟩;rw [mR];obtain ⟨c',us,e1,e2,e3,e4⟩:=Own.putRow O0 ⟨a1,a2,a3'⟩ (srt p0) (srt p0) hlen ⟨[],by simp⟩ n os;rw [hlen] at e3 e4;exact ⟨_,c',rfl,e1.symm,e2,us,e3,rfl,e4⟩
def eK (p:Int):List Int→List Int
 | []=>[]
 | y :: l=>if y=p then eK p l else y :: eK y l
def fb:List Int→List Int
 | []=>[]
 | x :: l=>x :: eK x l
theorem ky (p:Int) (l:List Int) (x:Int):eK p (l++ [x])=eK p l++(if (p :: l).getLast? = some x then [] else [x]):=by
 induction l generalizing p with
 | nil=>by_cases h:x=p <;> simp [eK,h,eq_comm]
 | cons y l ih=>
  have h2:(p :: y :: l).getLast? = (y :: l).getLast? :=by simp [List.getLast?_cons_cons]
  rw [aP];by_cases h:y=p
  ·subst h;simp only [eK,ad];rw [ih,h2]
  ·simp only [eK,af h];rw [ih,h2,aP]
theorem kx (l:List Int) (x:Int):fb (l++ [x])=fb l++(if l.getLast? = some x then [] else [x]):=by
 cases l with
 | nil=>simp [fb,eK]
 | cons y l=>
  rw [aP];simp only [fb];rw [ky,aP]
theorem jE (l:List Int):Lib.compact l=fb l:=by
 have key:∀m,m≤l.length→Lib.compactUpTo l.toArray m=fb (l.take m):=by
  intro m
  induction m with
  | zero=>intro _; rfl
  | succ m ih=>
   intro hm;have hx:l.toArray[m]! = l[m]:=by simp [show m < l.length by omega]
   rw [Lib.compactUpTo_succ,ih (by omega),ak (show m < l.length by omega),kx,hx]
   congr 1
   cases m with
   | zero=>simp [Lib.keeps]
   | succ k=>
    have hy:l.toArray[k]! = l[k]:=by simp [show k < l.length by omega]
    have hg:(l.take (k+1)).getLast? = some l[k]:=by
     rw [List.getLast?_eq_getElem?,ao,gk (by omega),iO,bj,ad (by omega),ai (by omega)]
    rw [hg];by_cases h:l[k+1]=l[k]
    ·rw [Lib.keeps_neg (by omega) (by rw [hx,iO,hy,h])];simp [h]
    ·rw [Lib.keeps_pos (by rw [hx,iO,hy]; exact h)];simp [nB h]
 have:=key l.length (aj _);rw [aO] at this;exact this
theorem lI (p:Int) (l:List Int):(eK p l).length≤l.length:=by
 induction l generalizing p with
 | nil=>simp [eK]
 | cons y l ih=>
  unfold eK;split
  ·have:=ih p; simp; omega
  ·have:=ih y; simp; omega
theorem jb (l:List Int):(fb l).length≤l.length:=by
 cases l with
 | nil=>simp [fb]
 | cons x l=>have:=lI x l; simp [fb]; omega
def cZ (p0:List Int):Option (List Int):=some (fb p0)
def go:Go.Shelf.Ren:=⟨fun | 0=>0 | 1=>1 | 2=>2 | 20=>67 | 31=>83 | 37=>93 | 40=>95 | 41=>96 | 42=>97 | 43=>98 | 44=>99 | 45=>100 | 46=>101 | 47=>102 | 48=>103 | 49=>104 | 50=>105 | 51=>106 | 52=>107 | 53=>108 | 54=>109 | 55=>110 | n=>n,fun | 0=>0 | 1=>1 | 2=>2 | 3=>3 | 4=>4 | 5=>5 | 6=>6 | 7=>7 | 8=>8 | 9=>9 | 10=>10 | 11=>11 | 12=>12 | 13=>13 | 14=>14 | 15=>15 | 16=>16 | 17=>17 | 18=>18 | 19=>19 | 20=>20 | 21=>21 | 22=>47 | 23=>82 | 33=>84 | 40=>91 | 41=>99 | 42=>80 | 45=>81 | 46=>115 | 47=>116 | 48=>117 | 49=>118 | 50=>119 | 51=>120 | 52=>26 | 53=>103 | 54=>121 | 55=>122 | 56=>123 | 57=>124 | 58=>125 | 59=>126 | 60=>127 | 61=>128 | 62=>129 | n=>n,fun | n=>n⟩
theorem gf:Go.Proofs.Lays2.n20 Try.prog go:=by
 constructor <;> first | kernel_rfl | (intro w; kernel_rfl) | (constructor <;> first | kernel_rfl | (intro w; kernel_rfl))
theorem f9 {c0:Cx} {G:Gm} {F:List En} {v1:Value} {u1:List Value} (p0:List Int) (O0:Own c0 G (es true (RI .i64) v1 3 u1 p0 :: F)) (h1:OA (RI .i64) c0 v1 u1 p0) {r:List Int} (H:cZ p0=some r): Calls Try.prog 67 #[v1] c0.w (ay c0 fun c v=>∃y1:Value,∃y2:List Value,Own c G (es true (RI .i64) y1 3 y2 r :: F)∧v=y1∧OA (RI .i64) c y1 y2 r):=by
 obtain rfl:=kG H;rcases h1.2.1 with ⟨rfl,rfl⟩ | ⟨g,cap,rfl,a1,a2,a3⟩
 ·refine (Go.Proofs.Any.slices_Compact_int_empty gf none 0 c0.w).mono ?_;rintro e w' ⟨rfl,rfl⟩;exact ⟨_,c0,rfl,rfl,Cx.le.refl _,_,u1,O0,rfl,h1⟩
 ·have a3':cap≤u1.length:=by have:cap * 1≤u1.length:=a3; omega
  have hle:=jb p0;refine (Go.Proofs.Any.slices_Compact_int gf g 0 cap p0 c0.w (OA.holds O0 ⟨a3',a1⟩ h1.2.2) (by unfold maxLen at a2; omega) a1).mono ?_;rintro e w' ⟨rfl,n,rfl⟩;rw [jE];obtain ⟨c',us,e1,e2,e3,e4⟩:=Own.putRow O0 ⟨a1,a2,a3'⟩ (fb p0++List.replicate (p0.length - (fb p0).length) 0) (fb p0) (by rw [am,nG]; omega) ⟨_,rfl⟩ n #[];rw [Sort.grow_empty] at e1;exact ⟨_,c',rfl,e1.symm,e2,_,us,e3,rfl,e4⟩
end Go.Proofs.Ytjghgpnafaoojaa
namespace Go.Proofs.Ytjghgpnafaoojaa
open Go Go.Lt
set_option maxRecDepth 10000
set_option linter.unusedVariables false
attribute [local irreducible] W WL AC
open Try
variable {c0:Cx} {G:Gm} {F:List En} {sg:Sto} {v1 v2 v3 v4 v5 v6 v7 v8 v9 v10 v11 v12 v13 v14 v15 v16 v17 v18 v19 v20 v21 v22 v23 v24 v25 v26 v27 v28 v29 v30 v31 v32 v33 v34 v35 v36 v37 v38 v39 v40 v41 v42 v43 v44 v45 v46 v47 v48 v49 v50 v51 v52 v53 v54 v55 v56 v57 v58 v59 v60:Value}
def aS (p0:List aa):Option (Bool):=
 (aU (σ:=Int×Int) (τ:=Bool ⊕ Unit) (((p0.length:Int) - 0).toNat+1) (fun c=>
 if (decide (c.2 < (p0.length:Int)))=true then
 (idx p0 c.2).bind fun a=>
 (orE (decide (a.Lo≤c.1)) (some (decide (a.Hi < a.Lo)))).bind fun d=>
 (orE d (some (decide (a.Hi > 1114111)))).bind fun e=>
 (orE e (some (decide (a.Val < 1)))).bind fun f=>
 (orE f (some (decide (a.Val > 65535)))).bind fun g=>
 if g=true then
 some (.inr (.inl false))
 else
 some (.inl (a.Hi,(w64 (c.2+1))))
 else
 some (.inr (.inr ()))) ((-1),0)).bind fun b=>
 match b with
 | .inl b=>
 some b
 | .inr b=>
 some true
theorem dE (O0:Own c0 G F) (u:List aa) {r:Bool} (U:Sl ab c0 v1 u) (H:aS u=some r): Calls prog 31 #[v1] c0.w (ay c0 fun c v=>Own c G (F)∧v=B r):=by
 unfold aS at H;refine en func31 rfl rfl (sr (va (B false) (wln (sr (va (I (-1)) (wln (W.seq (sr (va (v1) (vx (ln 3 aL U) (va (I 0) (wln (W.block (bn H fun s h3 R=>lp h3 (fun d=>Jn c0 fun c l=>Own c G (F)∧l= [(3,I d.1),(6,v1),(7,I (u.length:Int)),(8,I d.2)]) (fun t=>match t with | .inl Z=>(fun x0 ex e w=>ex= .ret∧(Jn c0 fun c l=>Own c G (F)∧l= [(2,B x0)]) e w) Z | .inr Z=>(fun g1 ex e w=>ex= .exit 0∧(Jn c0 fun c l=>Own c G (F)∧l= []) e w) Z) ?_ ?_ ?_))))))))))))))
 ·clear R h3;intro d t1 o0 y0 H;revert o0 y0;rintro T X ⟨c5,g6,_,rfl,l5,rfl,O7,rfl⟩;refine sr (va (B (decide (d.2 < (u.length:Int)))) (wln (W.seq (cn H (fun s0 H=>?_) (fun s0 H=>?_)))))
  ·refine W.skip (nrm (W.seq (W.block (sr (bn H fun a y H=>?_)))));obtain ⟨f1,t0,w0⟩:=Sl.at (U.mono l5) (aH y);obtain rfl:=t0;refine vx (ix aL U.m y) (vx (lN 52 w0) (me (al 52 [I 0,I 0,I 0] O7) ?_));rintro v19 h1 m1 ⟨f,rfl,f0⟩;refine md (sA 52 [I a.Lo,I a.Hi,I a.Val] 0 f0 ⟨rfl,rfl,rfl,trivial⟩) ?_;rintro g n1 b;refine wln (W.seq (W.seq (bn H fun b1 z H=>bn H fun c1 q H=>bn H fun d1 o H=>bn H fun S h H=>W.join (Jn g fun c l=>Own c G ((Eb f 52 [I a.Lo,I a.Hi,I a.Val]) :: F)∧l= [(5,Q f),(6,v1),(7,I (u.length:Int)),(8,I d.2),(37,B S)]) ?_ ?_)))
   ·clear H;refine W.region (va (Q f) (vx (le1 0 u_3 (b.on 0 rfl)) (va (I d.1) (va (B (decide (a.Lo≤d.1))) ?_))));rcases bo (decide (a.Lo≤d.1)) with i | i
    ·obtain rfl:=orT i z;refine vb i (pz (pz (ps (va (B true) ?_))));have A:true=true:=rfl;obtain rfl:=orT A q;refine vb A (pz (ps (va (B true) ?_)));have D:true=true:=rfl;obtain rfl:=orT D o;refine vb D (pz (ps (va (B true) ?_)));have E:true=true:=rfl;obtain rfl:=orT E h;exact vb E (pz (ps (va (B true) (wln (jn g ⟨b,rfl⟩)))))
    have a0:=orF i z;refine vb i (wa (Qo f 1) (wn (vx (le1 1 u_3 (b.on 0 rfl)) (wa (Q f) (wn (vx (le1 0 u_3 (b.on 0 rfl)) (wa (B (decide (a.Hi < a.Lo))) ?_)))))));obtain rfl:=si a0;refine va (B (decide (a.Hi < a.Lo))) ?_;rcases bo (decide (a.Hi < a.Lo)) with j | j
    ·obtain rfl:=orT j q;refine vb j (pz (ps (va (B true) ?_)));have M:true=true:=rfl;obtain rfl:=orT M o;refine vb M (pz (ps (va (B true) ?_)));have N:true=true:=rfl;obtain rfl:=orT N h;exact vb N (pz (ps (va (B true) (wln (jn g ⟨b,rfl⟩)))))
    have b0:=orF j q;refine vb j (wa (Qo f 1) (wn (vx (le1 1 u_3 (b.on 0 rfl)) (wa (B (decide (a.Hi > 1114111))) ?_))));obtain rfl:=si b0;refine va (B (decide (a.Hi > 1114111))) ?_;rcases bo (decide (a.Hi > 1114111)) with k | k
    ·obtain rfl:=orT k o;refine vb k (pz (ps (va (B true) ?_)));have P:true=true:=rfl;obtain rfl:=orT P h;exact vb P (pz (ps (va (B true) (wln (jn g ⟨b,rfl⟩)))))
    have d0:=orF k o;refine vb k (wa (Qo f 2) (wn (vx (le1 2 u_3 (b.on 0 rfl)) (wa (B (decide (a.Val < 1))) ?_))));obtain rfl:=si d0;refine va (B (decide (a.Val < 1))) ?_;rcases bo (decide (a.Val < 1)) with n | n
    ·obtain rfl:=orT n h;exact vb n (pz (ps (va (B true) (wln (jn g ⟨b,rfl⟩)))))
    have e0:=orF n h;refine vb n (wa (Qo f 2) (wn (vx (le1 2 u_3 (b.on 0 rfl)) (wa (B (decide (a.Val > 65535))) ?_))));obtain rfl:=si e0;exact va (B (decide (a.Val > 65535))) (wln (jn g ⟨b,rfl⟩))
   rintro T X ⟨x,i1,_,rfl,p1,rfl,p,rfl⟩;refine nrm (cn H (fun v0 H=>?_) (fun v0 H=>?_))
   ·refine sr (va (B false) (wln (W.ret (thr (bkr (thr ?_))))));obtain rfl:=si H;refine ⟨_,rfl,⟨rfl,?_⟩⟩;have g0:=p.sD 1 [];exact jn x ⟨g0,rfl⟩
   refine W.skip (nrm (W.region (va (Qo f 1) (vx (le1 1 u_3 (p.on 0 rfl)) (va (I a.Hi) (WL.nil (bkn (nrm (W.region (vv (I (w64 (d.2+1))) (WL.nil ?_)))))))))));obtain rfl:=si H;refine ⟨_,rfl,?_⟩;have h0:=p.sD 1 [];exact jn x ⟨h0,rfl⟩
  refine W.exit (thx ?_);obtain rfl:=si H;exact ⟨_,rfl,rfl,jn c5 ⟨O7,rfl⟩⟩
 ·exact jn c0 ⟨O0,rfl⟩
 rcases s with s | s
 ·intro q0; revert q0;rintro _ T X ⟨rfl,l0,j1,_,rfl,q1,rfl,i0,rfl⟩;refine bkr (thr ?_);obtain rfl:=si R;exact r1 (qq l0 ⟨i0,rfl⟩)
 rintro _ T X ⟨rfl,m0,k1,_,rfl,s1,rfl,j0,rfl⟩;refine bke (nrm (sr (va (B true) (wln (W.ret ?_)))));obtain rfl:=si R;exact r1 (qq m0 ⟨j0,rfl⟩)
def cE (p0:List (List aa)):Option (List Int):=
 (aU (σ:=(List Int)×Int) (τ:=(List Int)) (((p0.length:Int) - 0).toNat+1) (fun b=>
 if (decide (b.2 < (p0.length:Int)))=true then
 (idx p0 b.2).bind fun c=>
 (aU (σ:=(List Int)×Int) (τ:=(List Int)) (((c.length:Int) - 0).toNat+1) (fun a=>
 if (decide (a.2 < (c.length:Int)))=true then
 (idx c a.2).bind fun d=>
 (app a.1 ([d.Lo,(w64 (d.Hi+1))]:List Int)).bind fun f=>
 some (.inl (f,(w64 (a.2+1))))
 else
 some (.inr (a.1))) (b.1,0)).bind fun e=>
 some (.inl (e,(w64 (b.2+1))))
 else
 some (.inr (b.1))) (([]:List Int),0)).bind fun i=>
 (dd i).bind fun g=>
 (cZ g).bind fun h=>
 some h
theorem gX (O0:Own c0 G F) (j:List (List aa)) {r:List Int} (U:Sl (RL ab) c0 v1 j) (H:cE j=some r): Calls prog 32 #[v1] c0.w (ay c0 fun c v=>∃y1 y2,Own c G (es true (RI .i64) y1 3 y2 r :: F)∧v=y1∧OA (RI .i64) c y1 y2 r):=by
 unfold cE at H;refine en func32 rfl rfl (sr (va (Y) (wln (sr (va (Y) (wln (W.seq (sr (va (v1) (vx (ln 3 kg U) (va (I 0) (wln (W.block (bn H fun q1 h3 i=>lp h3 (fun d=>Jn c0 fun c l=>∃v5 q,Own c G (es true (RI .i64) v5 3 q d.1 :: F)∧l= [(3,v5),(8,v1),(9,I (j.length:Int)),(10,I d.2)]∧OA (RI .i64) c v5 q d.1) (fun p ex e w=>ex= .exit 0∧(Jn c0 fun c l=>∃v7 X,Own c G (es true (RI .i64) v7 3 X p :: F)∧l= [(3,v7)]∧OA (RI .i64) c v7 X p) e w) ?_ ?_ ?_))))))))))))))
 ·clear i h3;intro d u1 n s H;revert n s;rintro T Z ⟨u,n2,_,rfl,l9,rfl,v5,q,y,rfl,D⟩;refine sr (va (B (decide (d.2 < (j.length:Int)))) (wln (W.seq (cn H (fun u0 H=>?_) (fun u0 H=>?_)))))
  ·refine W.skip (nrm (W.seq (W.block (sr (bn H fun t E H=>?_)))));obtain ⟨b2,v0,n1⟩:=Sl.at (U.mono l9) (aH E);obtain ⟨v21,rfl,o⟩:=v0;refine vx (ix kg U.m E) (vx (l1 aL (n1 0 _ rfl)) (va (v21) (wln (sr (va (v21) (vx (ln 3 aL o) (va (I 0) (wln (W.block (bn H fun d2 M x=>lp M (fun b=>Jn u fun c l=>∃v25 g,Own c G (es true (RI .i64) v25 3 g b.1 :: F)∧l= [(3,v25),(8,v1),(9,I (j.length:Int)),(10,I d.2),(14,v21),(15,I (t.length:Int)),(16,I b.2)]∧OA (RI .i64) c v25 g b.1) (fun f ex e w=>ex= .exit 2∧(Jn u fun c l=>∃v27 h,Own c G (es true (RI .i64) v27 3 h f :: F)∧l= [(3,v27),(8,v1),(9,I (j.length:Int)),(10,I d.2)]∧OA (RI .i64) c v27 h f) e w) ?_ ?_ ?_))))))))))
   ·clear x M;intro b u1 n s H;revert n s;rintro T Z ⟨o0,o2,_,rfl,m1,rfl,v25,g,z,rfl,N⟩;refine sr (va (B (decide (b.2 < (t.length:Int)))) (wln (W.seq (cn H (fun x0 H=>?_) (fun x0 H=>?_)))))
    ·refine W.skip (nrm (W.seq (W.block (sr (bn H fun a P H=>?_)))));obtain ⟨c2,y0,p1⟩:=Sl.at (o.mono m1) (aH P);obtain rfl:=y0;refine vx (ix aL o.m P) (vx (lN 52 p1) (me (al 52 [I 0,I 0,I 0] z) ?_));rintro v44 g2 s2 ⟨A,rfl,d0⟩;refine md (sA 52 [I a.Lo,I a.Hi,I a.Val] 0 d0 ⟨rfl,rfl,rfl,trivial⟩) ?_;rintro i2 t2 k;refine wln (W.region (va (v25) (va (Q A) (vx (le1 0 u_3 (k.on 0 rfl)) (va (Qo A 1) (vx (le1 1 u_3 (k.on 0 rfl)) (va (I (w64 (a.Hi+1))) (me (sl (RI .i64) 3 [[I a.Lo],[I (w64 (a.Hi+1))]] ([a.Lo,(w64 (a.Hi+1))]:List Int) k ⟨rfl,rfl,trivial⟩) ?_))))))));rintro v51 j2 u2 ⟨c3,e0,z0⟩;obtain ⟨k2,b1,v2,f0,a1⟩:=e0.frz 0 rfl z0;refine WL.gh b1 (bn H fun e2 c1 H=>me (ap (RI .i64) (I 0) 8 47 2 f0 N.m a1 c1 kP) ?_);rintro R q0 w2 ⟨s1,g0,d1⟩;refine va (R) (WL.nil (bkn (nrm (W.region (vv (I (w64 (b.2+1))) (WL.nil ?_))))));obtain rfl:=si H;refine ⟨_,rfl,?_⟩;have h0:=g0.sD 3 [2];exact jn q0 ⟨R,s1,h0,rfl,d1⟩
    refine W.exit (thx ?_);obtain rfl:=si H;exact ⟨_,rfl,rfl,jn o0 ⟨v25,g,z,rfl,N⟩⟩
   ·exact jn u ⟨v5,q,y,rfl,D⟩
   rintro _ T Z ⟨rfl,s0,p2,_,rfl,x2,rfl,v27,h,i0,rfl,e1⟩;refine bke (bkn (nrm (W.region (vv (I (w64 (d.2+1))) (WL.nil ?_)))));obtain rfl:=si x;exact ⟨_,rfl,jn s0 ⟨v27,h,i0,rfl,e1⟩⟩
  refine W.exit (thx ?_);obtain rfl:=si H;exact ⟨_,rfl,rfl,jn u ⟨v5,q,y,rfl,D⟩⟩
 ·have f1:OA (RI .i64) c0 (Y) [] []:=OA.nil (au _);have j0:=O0.addHole (e:=es true (RI .i64) (Y) 3 [] ([]:List Int)) rfl;exact jn c0 ⟨(Y),[],j0,rfl,f1⟩
 rintro _ T Z ⟨rfl,l2,q2,_,rfl,z2,rfl,v7,X,k0,rfl,g1⟩;refine bke (nrm (sr (va (v7) (bn i fun a0 h1 i=>cl (gY q1 k0 g1 h1) ?_))));rintro e3 m2 a3 ⟨d3,l0,rfl,i1⟩;refine wln (sr (va (v7) (bn i fun f2 j1 i=>cl (f9 a0 l0 i1 j1) ?_)));rintro S t0 b3 ⟨_,t1,m0,rfl,k1⟩;refine va (S) (wln (W.ret ?_));obtain rfl:=si i;exact r1 (qq t0 ⟨S,t1,m0,rfl,k1⟩)
def cO (p0:Int) (q0_0:List aa) (q1_0:Int):Option (Bool):=
 (idx q0_0 p0).bind fun a=>
 some (decide (a.Hi≥q1_0))
theorem iI {d:Nat} {e:Nat} (o:Own c0 G F) (b:Int) (q0_0:List aa) (q1_0:Int) {r:Bool} (s:∀j u,([v2]:List Value)[j]? = some u→Im c0 d (0+j) u) (k:Sl ab c0 v2 q0_0) (t:∀j u,([I q1_0]:List Value)[j]? = some u→Im c0 e (0+j) u) (H:cO b q0_0 q1_0=some r): Calls prog 76 #[I b,Q d,Q e] c0.w (ay c0 fun c v=>Own c G (F)∧v=B r):=by
 unfold cO at H;refine en func76 rfl rfl (sr (va (B false) (wln (W.seq (rD [] (Kp G0 []) o ?_)))));intro h q p;have y:Kp G0 [] h:=Kp.nil0;refine tx 0 (fun g a=>l1 aL ((mm s) 0 _ rfl)) (ta 1 (I b) (bn H fun f l H=>?_));obtain ⟨x,i,n⟩:=Sl.at (k.mono q) (aH l);obtain rfl:=i;refine tx 2 (fun g a=>ix aL k.m l) (ta 3 (Qo (sb v2) (so v2+b.toNat * 3+1)) (tx 4 (fun g a=>l1 u_3 ((mm n) 1 _ rfl)) (tx 5 (fun g a=>l1 u_3 ((mm t) 0 _ rfl)) (ta 6 (B (decide (f.Hi≥q1_0))) (ta 7 (B (decide (f.Hi≥q1_0))) (dn (nrm (W.ret ?_))))))));obtain rfl:=si H;exact r1 (qq h ⟨p,rfl⟩)
def aX (p0:Int) (p1_0_0:List aa) (p1_1_0:Int):Option (Int):=
 (aU (σ:=Int×Int) (τ:=Int) ((p0 - 0).toNat+1) (fun a=>
 if (decide (a.1 < a.2))=true then
 (cO (w64 ((IntKind.u64.wrap (w64 (a.1+a.2))).fdiv (2 ^ 1))) p1_0_0 p1_1_0).bind fun b=>
 if (!b)=true then
 some (.inl ((w64 ((w64 ((IntKind.u64.wrap (w64 (a.1+a.2))).fdiv (2 ^ 1)))+1)),a.2))
 else
 some (.inl (a.1,(w64 ((IntKind.u64.wrap (w64 (a.1+a.2))).fdiv (2 ^ 1)))))
 else
 some (.inr (a.1))) (0,p0)).bind fun c=>
 some c
theorem dz {b1_0:Nat} {b1_1:Nat} (A:Own c0 G F) (b:Int) (p1_0_0:List aa) (p1_1_0:Int) {r:Int} (N:∀j u,([v2]:List Value)[j]? = some u→Im c0 b1_0 (0+j) u) (M:Sl ab c0 v2 p1_0_0) (P:∀j u,([I p1_1_0]:List Value)[j]? = some u→Im c0 b1_1 (0+j) u) (H:aX b p1_0_0 p1_1_0=some r): Calls prog 61 #[I b,.func (.func 76) #[] #[Q b1_0,Q b1_1]] c0.w (ay c0 fun c v=>Own c G (F)∧v=I r):=by
 unfold aX at H;refine en func61 rfl rfl (sr (va (I 0) (wln (sr (va (I b) (va (I 0) (va (I b) (wln (W.seq (W.block (bn H fun g y k=>lp y (fun a=>Jn c0 fun c l=>Own c G (F)∧l= [(1,.func (.func 76) #[] #[Q b1_0,Q b1_1]),(5,I a.1),(6,I a.2)]) (fun h ex e w=>ex= .exit 0∧(Jn c0 fun c l=>Own c G (F)∧l= [(5,I h)]) e w) ?_ ?_ ?_)))))))))))
 ·clear k y;intro a X q z H;revert q z;rintro E R ⟨D,Z,_,rfl,l7,rfl,o,rfl⟩;refine W.seq (sr (va (I a.1) (va (I a.2) (va (B (decide (a.1 < a.2))) (wln (cn H (fun s H=>?_) (fun s H=>?_)))))))
  ·refine W.skip (nrm (W.block (sr (va (I a.1) (va (I a.2) (va (I (w64 (a.1+a.2))) (va (.int .u64 (IntKind.u64.wrap (w64 (a.1+a.2)))) (va (.int .u64 ((IntKind.u64.wrap (w64 (a.1+a.2))).fdiv (2 ^ 1))) (vv (I (w64 ((IntKind.u64.wrap (w64 (a.1+a.2))).fdiv (2 ^ 1)))) (wln (sr (va (.func (.func 76) #[] #[Q b1_0,Q b1_1]) (va (I (w64 ((IntKind.u64.wrap (w64 (a.1+a.2))).fdiv (2 ^ 1)))) (bn H fun i t H=>cl (iI o (w64 ((IntKind.u64.wrap (w64 (a.1+a.2))).fdiv (2 ^ 1))) p1_0_0 p1_1_0 (mm N) M.m (mm P) t) ?_))))))))))))));rintro v20 f T ⟨d,rfl⟩;refine va (B (!i)) (wln (cn H (fun x H=>?_) (fun x H=>?_)))
   ·refine W.region (va (I (w64 ((IntKind.u64.wrap (w64 (a.1+a.2))).fdiv (2 ^ 1)))) (vv (I (w64 ((w64 ((IntKind.u64.wrap (w64 (a.1+a.2))).fdiv (2 ^ 1)))+1))) (WL.nil (bkn ?_))));obtain rfl:=si H;exact ⟨_,rfl,jn f ⟨d,rfl⟩⟩
   refine W.region (vv (I (w64 ((IntKind.u64.wrap (w64 (a.1+a.2))).fdiv (2 ^ 1)))) (WL.nil (bkn ?_)));obtain rfl:=si H;exact ⟨_,rfl,jn f ⟨d,rfl⟩⟩
  refine W.exit (thx ?_);obtain rfl:=si H;exact ⟨_,rfl,rfl,jn D ⟨o,rfl⟩⟩
 ·exact jn c0 ⟨A,rfl⟩
 rintro _ E R ⟨rfl,p,S,_,rfl,U,rfl,n,rfl⟩;refine bke (nrm (sr (vv (I g) (wln (W.ret ?_)))));obtain rfl:=si k;exact r1 (qq p ⟨n,rfl⟩)
def dt (p0:List aa) (p1:Int):Option (Int):=
 (aX (p0.length:Int) p0 p1).bind fun a=>
 some a
theorem jG (n:Own c0 G F) (a:List aa) (b:Int) {r:Int} (d:Sl ab c0 v1 a) (H:dt a b=some r): Calls prog 68 #[v1,I b] c0.w (ay c0 fun c v=>Own c G (F)∧v=I r):=by
 unfold dt at H;refine en func68 rfl rfl (sr ?_);obtain ⟨p,q,s,rfl⟩:=(d).form;refine me (bx 33 [.slice p q s] n) ?_;rintro v10 z A ⟨t,rfl,o,k⟩;refine me (bx 3 [I b] o) ?_;rintro v15 u x ⟨g,rfl,e,j⟩;refine va (I 0) (wln (sr (vx (l1 aL ((mm k) 0 _ rfl)) (vx (ln 3 aL d.m) (va (.func (.func 76) #[] #[Q t,Q g]) (bn H fun l i H=>cl (dz e (a.length:Int) a b (mm k) d.m j i) ?_))))));rintro v22 h y ⟨f,rfl⟩;refine va (I l) (wln (W.ret ?_));obtain rfl:=si H;exact r1 (qq h ⟨f,rfl⟩)
def cz (p0:List aa) (p1:Int):Option (Int):=
 (dt p0 p1).bind fun a=>
 (cW (decide (a < (p0.length:Int))) ((idx p0 a).bind fun c=>
 some (decide (c.Lo≤p1)))).bind fun b=>
 if b=true then
 (idx p0 a).bind fun d=>
 some d.Val
 else
 some 0
theorem iH (M:Own c0 G F) (g:List aa) (d:Int) {r:Int} (e:Sl ab c0 v1 g) (H:cz g d=some r): Calls prog 33 #[v1,I d] c0.w (ay c0 fun c v=>Own c G (F)∧v=I r):=by
 unfold cz at H;refine en func33 rfl rfl (sr (va (I 0) (wln (W.seq (sr (va (v1) (va (I d) (bn H fun a N H=>cl (jG M g d e N) ?_))))))));rintro v9 p A ⟨t,rfl⟩;refine va (I a) (wln (W.seq (bn H fun q k H=>W.join (Jn p fun c l=>Own c G (F)∧l= [(0,v1),(5,I a),(21,B q)]) ?_ ?_)))
 ·clear H;refine W.region (va (I a) (va (v1) (vx (ln 3 aL e.m) (va (B (decide (a < (g.length:Int)))) ?_))));rcases bo (decide (a < (g.length:Int))) with b | b
  ·have f:=anT b k;refine vb b (wa (v1) (wa (I a) (wn (bn f fun h n f=>?_))));obtain ⟨P,u,D⟩:=Sl.at (e.mono A) (aH n);obtain rfl:=u;refine vx (ix aL e.m n) (wa (Qo (sb v1) (so v1+a.toNat * 3)) (wn (vx (l1 u_3 (D 0 _ rfl)) (wa (I d) (wa (B (decide (h.Lo≤d))) ?_)))));obtain rfl:=si f;exact va (B (decide (h.Lo≤d))) (wln (jn p ⟨t,rfl⟩))
  obtain rfl:=anF b k;exact vb b (pz (pz (pz (ps (va (B false) (wln (jn p ⟨t,rfl⟩)))))))
 rintro T U ⟨j,S,_,rfl,z,rfl,i,rfl⟩;refine nrm (cn H (fun x H=>?_) (fun x H=>?_))
 ·refine sr (va (v1) (va (I a) (bn H fun s o H=>?_)));obtain ⟨R,y,E⟩:=Sl.at (e.mono (A.trans z)) (aH o);obtain rfl:=y;refine vx (ix aL e.m o) (va (Qo (sb v1) (so v1+a.toNat * 3+2)) (vx (l1 u_3 (E 2 _ rfl)) (va (I s.Val) (wln (W.ret (thr ?_))))));obtain rfl:=si H;exact r1 (qq j ⟨i,rfl⟩)
 refine W.skip (nrm (sr (va (I 0) (wln (W.ret ?_)))));obtain rfl:=si H;exact r1 (qq j ⟨i,rfl⟩)
def cJ (p0:List aa) (p1:aa):Option (List aa):=
 (cW (decide ((w64 ((p0.length:Int) - 1))≥0)) ((idx p0 (w64 ((p0.length:Int) - 1))).bind fun e=>
 some (e.Val==p1.Val))).bind fun b=>
 (cW b ((idx p0 (w64 ((p0.length:Int) - 1))).bind fun f=>
 some (f.Hi==(w64 (p1.Lo - 1))))).bind fun c=>
 if c=true then
 (idx p0 (w64 ((p0.length:Int) - 1))).bind fun a=>
 (gV p0 (w64 ((p0.length:Int) - 1)) (⟨a.Lo,p1.Hi,a.Val⟩:aa)).bind fun d=>
 some d
 else
 (app p0 ([p1]:List aa)).bind fun g=>
 some g
theorem gg {a:Value} {o:List Value} (d:List aa) (b:aa) (O0:Own c0 G (es true ab a 52 o d :: F)) {r:List aa} (g:OA ab c0 a o d) (H:cJ d b=some r): Calls prog 34 #[a,.agg #[I b.Lo,I b.Hi,I b.Val]] c0.w (ay c0 fun c v=>∃y1 y2,Own c G (es true ab y1 52 y2 r :: F)∧v=y1∧OA ab c y1 y2 r):=by
 unfold cJ at H;refine en func34 rfl rfl (sr (me (bx 52 [I b.Lo,I b.Hi,I b.Val] O0) ?_));rintro v6 c5 l5 ⟨A,rfl,O3,E⟩;refine va (Y) (wln (W.seq (sr (va (a) (vx (lnO 3 aL g.m) (vv (I (w64 ((d.length:Int) - 1))) (wln (W.seq (bn H fun m1 h7 H=>bn H fun U X H=>W.join (Jn c5 fun c l=>Own c G (es true ab a 52 o d :: F)∧l= [(0,a),(3,Q A),(5,I (w64 ((d.length:Int) - 1))),(31,B U)]) ?_ ?_)))))))))
 ·clear H;refine rD [] (Kp G0 [es true ab a 52 o d]) O3 ?_;intro D l9 q;have S:Kp G0 [es true ab a 52 o d] D:=(Kp.cons (q.on 0 rfl) Kp.nil0);refine ta 0 (I (w64 ((d.length:Int) - 1))) (ta 1 (B (decide ((w64 ((d.length:Int) - 1))≥0))) ?_);rcases bo (decide ((w64 ((d.length:Int) - 1))≥0)) with k | k
  ·have s:=anT k h7;refine bn s fun i y s=>AC.takeb 2 k rfl (by kernel_rfl) (by kernel_rfl) (fun h e=>(by kernel_rfl)) (ta 3 (a) (ta 4 (I (w64 ((d.length:Int) - 1))) (tx 5 (fun h e=>ixO aL g.m y) (ta 6 (Qo (sb a) ((w64 ((d.length:Int) - 1)).toNat * 3+2)) ?_))));obtain ⟨n1,k0,b1⟩:=OA.at (g.mono (l5.trans l9)) y;obtain rfl:=k0;refine AC.takeK 7 (I i.Val) S rfl (by kernel_rfl) (by kernel_rfl) (by kernel_rfl) (fun h e Z=>(rx (by kernel_rfl) (fF u_3 rfl (Z.on 0 rfl) (g.m.blk y) (at1 (j:=2) b1 rfl)))) (ta 8 (Qo A (0+2)) (tx 9 (fun h e=>l1 u_3 ((mm E) 2 _ rfl)) (ta 10 (B (i.Val==b.Val)) ?_)));obtain rfl:=si s;refine ta 11 (B (i.Val==b.Val)) ?_;rcases bo (i.Val==b.Val) with n | n
   ·have t:=anT n X;refine bn t fun p z t=>AC.takeb 12 n rfl (by kernel_rfl) (by kernel_rfl) (fun h e=>(by kernel_rfl)) (ta 13 (a) (ta 14 (I (w64 ((d.length:Int) - 1))) (tx 15 (fun h e=>ixO aL g.m z) (ta 16 (Qo (sb a) ((w64 ((d.length:Int) - 1)).toNat * 3+1)) ?_))));obtain ⟨q1,l0,c1⟩:=OA.at (g.mono (l5.trans l9)) z;obtain rfl:=l0;refine AC.takeK 17 (I p.Hi) S rfl (by kernel_rfl) (by kernel_rfl) (by kernel_rfl) (fun h e Z=>(rx (by kernel_rfl) (fF u_3 rfl (Z.on 0 rfl) (g.m.blk z) (at1 (j:=1) c1 rfl)))) (ta 18 (Q A) (tx 19 (fun h e=>l1 u_3 ((mm E) 0 _ rfl)) (ta 20 (I (w64 (b.Lo - 1))) (ta 21 (B (p.Hi==(w64 (b.Lo - 1)))) ?_))));obtain rfl:=si t;exact ta 22 (B (p.Hi==(w64 (b.Lo - 1)))) (dn (nrm (jn D ⟨q,rfl⟩)))
   obtain rfl:=anF n X;exact AC.takeb 12 n rfl (by kernel_rfl) (by kernel_rfl) (fun h e=>(by kernel_rfl)) (tp 13 (tp 14 (tp 15 (tp 16 (tp 17 (tp 18 (tp 19 (tp 20 (tp 21 (ta 22 (B false) (dn (nrm (jn D ⟨q,rfl⟩)))))))))))))
  obtain rfl:=anF k h7;refine AC.takeb 2 k rfl (by kernel_rfl) (by kernel_rfl) (fun h e=>(by kernel_rfl)) (tp 3 (tp 4 (tp 5 (tp 6 (tp 7 (tp 8 (tp 9 (tp 10 (ta 11 (B false) ?_)))))))));have N:false=false:=rfl;obtain rfl:=anF N X;exact AC.takeb 12 N rfl (by kernel_rfl) (by kernel_rfl) (fun h e=>(by kernel_rfl)) (tp 13 (tp 14 (tp 15 (tp 16 (tp 17 (tp 18 (tp 19 (tp 20 (tp 21 (ta 22 (B false) (dn (nrm (jn D ⟨q,rfl⟩)))))))))))))
 rintro e_ w_ ⟨v1,z1,_,rfl,z0,rfl,M,rfl⟩;refine nrm (cn H (fun m0 H=>?_) (fun m0 H=>?_))
 ·refine sr (va (a) (va (I (w64 ((d.length:Int) - 1))) (va (Qo A (0+1)) (vx (l1 u_3 ((mm E) 1 _ rfl)) (bn H fun f P H=>vx (ixO aL g.m P) (va (Qo (sb a) ((w64 ((d.length:Int) - 1)).toNat * 3+1)) ?_))))));obtain ⟨s1,o0,d1⟩:=OA.at (g.mono (l5.trans z0)) P;obtain rfl:=o0;refine bn H fun t1 q0 H=>md (Own.stO (R:=ab) (T:=3) (us:=[I b.Hi]) (x':=(⟨f.Lo,b.Hi,f.Val⟩:aa)) (u:=I b.Hi) (x:=(⟨f.Lo,b.Hi,f.Val⟩:aa)) (j:=1) (l':=[I f.Lo,I b.Hi,I f.Val]) 0 M (by kernel_rfl) rfl g.m q0 d1 rfl (by kernel_rfl) ⟨rfl,trivial⟩ (by kernel_rfl) rfl rfl) ?_;rintro i0 c2 ⟨e1,d0,s0⟩;refine wln (sr (vv (a) (wln (W.ret (thr ?_)))));obtain rfl:=si H;exact r1 (qq i0 ⟨a,e1,d0,rfl,s0⟩)
 refine W.skip (nrm (sr (va (a) (vx (lN 52 (mm E)) (me (sl ab 52 [[I b.Lo,I b.Hi,I b.Val]] ([b]:List aa) M ⟨rfl,trivial⟩) ?_)))));rintro v45 w1 d2 ⟨g2,e0,t0⟩;obtain ⟨x1,v0,e2,f0,u0⟩:=e0.frz 0 rfl t0;refine WL.gh v0 (bn H fun u1 w0 H=>me (ap ab (ae 0 0 0) 24 33 1 f0 g.m u0 w0 aL) ?_);rintro v55 j0 f2 ⟨f1,g0,x0⟩;refine va (v55) (wln (W.ret ?_));obtain rfl:=si H;have h0:=g0.sD 2 [1];exact r1 (qq j0 ⟨v55,f1,h0,rfl,x0⟩)
def cK (p0:List (List aa)):Option (List aa):=
 (aU (σ:=Int) (τ:=(List aa) ⊕ Unit) (((p0.length:Int) - 0).toNat+1) (fun g=>
 if (decide (g < (p0.length:Int)))=true then
 (idx p0 g).bind fun i=>
 (aS i).bind fun j=>
 if (!j)=true then
 some (.inr (.inl ([]:List aa)))
 else
 some (.inl ((w64 (g+1))))
 else
 some (.inr (.inr ()))) (0)).bind fun f=>
 match f with
 | .inl f=>
 some f
 | .inr f=>
 (cE p0).bind fun e=>
 (aU (σ:=(List aa)×Int) (τ:=(List aa) ⊕ (List aa)) (((e.length:Int) - (w64 (0+1))).toNat+1) (fun a=>
 if (decide ((w64 (a.2+1)) < (e.length:Int)))=true then
 (aU (σ:=Int×Int) (τ:=(List aa) ⊕ Int) (((p0.length:Int) - 0).toNat+1) (fun c=>
 if (decide (c.2 < (p0.length:Int)))=true then
 (idx p0 c.2).bind fun k=>
 (idx e a.2).bind fun l=>
 (cz k l).bind fun h=>
 if (decide ((w64 (c.1+h)) > 65535))=true then
 some (.inr (.inl ([]:List aa)))
 else
 some (.inl ((w64 (c.1+h)),(w64 (c.2+1))))
 else
 some (.inr (.inr (c.1)))) (0,0)).bind fun b=>
 match b with
 | .inl b=>
 some (.inr (.inl b))
 | .inr b=>
 if (decide (b > 0))=true then
 (idx e a.2).bind fun m=>
 (idx e (w64 (a.2+1))).bind fun n=>
 (cJ a.1 (⟨m,(w64 (n - 1)),b⟩:aa)).bind fun o=>
 some (.inl (o,(w64 (a.2+1))))
 else
 some (.inl (a.1,(w64 (a.2+1))))
 else
 some (.inr (.inr (a.1)))) (([]:List aa),0)).bind fun d=>
 match d with
 | .inl d=>
 some d
 | .inr d=>
 some d
theorem jh (O0:Own c0 G F) (U:List (List aa)) {r:List aa} (S:Sl (RL ab) c0 v1 U) (H:cK U=some r): Calls prog 12 #[v1] c0.w (ay c0 fun c v=>∃y1 y2,Own c G (es true ab y1 52 y2 r :: F)∧v=y1∧OA ab c y1 y2 r):=by
 unfold cK at H;refine en func12 rfl rfl (sr (va (Y) (wln (W.seq (sr (va (v1) (vx (ln 3 kg S) (va (I 0) (wln (W.block (bn H fun v0 h3 b=>lp h3 (fun D=>Jn c0 fun c l=>Own c G (F)∧l= [(0,v1),(11,v1),(12,I (U.length:Int)),(13,I D)]) (fun t=>match t with | .inl p=>(fun k ex e w=>ex= .ret∧(Jn c0 fun c l=>∃v5 u6,Own c G (es true ab v5 52 u6 k :: F)∧l= [(2,v5)]∧OA ab c v5 u6 k) e w) p | .inr p=>(fun v4 ex e w=>ex= .exit 0∧(Jn c0 fun c l=>Own c G (F)∧l= [(0,v1)]) e w) p) ?_ ?_ ?_)))))))))))
 ·clear b h3;intro D k1 z N H;revert z N;rintro y M ⟨c7,g8,_,rfl,l7,rfl,O9,rfl⟩;refine sr (va (B (decide (D < (U.length:Int)))) (wln (W.seq (cn H (fun g3 H=>?_) (fun g3 H=>?_)))))
  ·refine W.skip (nrm (W.seq (W.block (sr (bn H fun t2 e1 H=>?_)))));obtain ⟨s4,i3,b4⟩:=Sl.at (S.mono l7) (aH e1);obtain ⟨v18,rfl,j3⟩:=i3;refine vx (ix kg S.m e1) (vx (l1 aL (b4 0 _ rfl)) (va (v18) (wln (sr (va (v18) (bn H fun u2 k3 H=>cl (dE O9 t2 j3 k3) ?_))))));rintro v26 l0 c5 ⟨b1,rfl⟩;refine va (B (!u2)) (wln (cn H (fun l3 H=>?_) (fun l3 H=>?_)))
   ·refine sr (va (Y) (wln (W.ret (bkr (thr ?_)))));obtain rfl:=si H;refine ⟨_,rfl,⟨rfl,?_⟩⟩;have m3:OA ab l0 (Y) [] []:=OA.nil (au _);have x2:=b1.addHole (e:=es true ab (Y) 52 [] ([]:List aa)) rfl;exact jn l0 ⟨(Y),[],x2,rfl,m3⟩
   refine W.skip (bkn (nrm (W.region (vv (I (w64 (D+1))) (WL.nil ?_)))));obtain rfl:=si H;exact ⟨_,rfl,jn l0 ⟨b1,rfl⟩⟩
  refine W.exit (thx ?_);obtain rfl:=si H;exact ⟨_,rfl,rfl,jn c7 ⟨O9,rfl⟩⟩
 ·exact jn c0 ⟨O0,rfl⟩
 rcases v0 with v0 | v0
 ·intro A; revert A;rintro _ y M ⟨rfl,e3,y4,_,rfl,d5,rfl,v5,u6,z2,rfl,o3⟩;refine bkr (thr ?_);obtain rfl:=si b;exact r1 (qq e3 ⟨v5,u6,z2,rfl,o3⟩)
 rintro _ y M ⟨rfl,x4,z4,_,rfl,z3,rfl,a3,rfl⟩;refine bke (nrm (sr (va (Y) (wln (sr (va (v1) (bn b fun h p3 b=>cl (gX a3 U S.m p3) ?_)))))));rintro v44 u a4 ⟨_,n,b3,rfl,i⟩;refine va (v44) (wln (W.seq (sr (va (I 0) (wln (W.block (bn b fun T f1 f0=>lp f1 (fun a=>Jn u fun c l=>∃v55 o,Own c G (es true ab v55 52 o a.1 :: es true (RI .i64) v44 3 n h :: F)∧l= [(0,v1),(5,v55),(6,v44),(7,I a.2)]∧OA ab c v55 o a.1) (fun t=>match t with | .inl p=>(fun k ex e w=>ex= .ret∧(Jn u fun c l=>∃v59 d0,Own c G (es true ab v59 52 d0 k :: F)∧l= [(2,v59)]∧OA ab c v59 d0 k) e w) p | .inr p=>(fun a0 ex e w=>ex= .exit 2∧(Jn u fun c l=>∃v57 b0,Own c G (es true ab v57 52 b0 a0 :: es true (RI .i64) v44 3 n h :: F)∧l= [(5,v57)]∧OA ab c v57 b0 a0) e w) p) ?_ ?_ ?_)))))))
 ·clear f0 f1;intro a k1 z N b;revert z N;rintro y M ⟨x,a5,_,rfl,Z,rfl,v55,o,c1,rfl,o0⟩;refine W.seq (sr (va (I a.2) (va (I (w64 (a.2+1))) (va (v44) (vx (lnO 3 kP i.m) (va (B (decide ((w64 (a.2+1)) < (h.length:Int)))) (wln (cn b (fun q3 b=>?_) (fun q3 b=>?_)))))))))
  ·refine W.skip (nrm (W.seq (W.block (sr (va (I 0) (wln (W.seq (sr (va (v1) (vx (ln 3 kg S.m) (va (I 0) (wln (W.block (bn b fun g g1 f=>lp g1 (fun d=>Jn x fun c l=>Own c G (es true ab v55 52 o a.1 :: es true (RI .i64) v44 3 n h :: F)∧l= [(0,v1),(5,v55),(6,v44),(7,I a.2),(8,I d.1),(30,v1),(31,I (U.length:Int)),(32,I d.2)]) (fun t=>match t with | .inl p=>(fun k ex e w=>ex= .ret∧(Jn x fun c l=>∃E e0,Own c G (es true ab E 52 e0 k :: F)∧l= [(2,E)]∧OA ab c E e0 k) e w) p | .inr p=>(fun z0 ex e w=>ex= .exit 4∧(Jn x fun c l=>Own c G (es true ab v55 52 o a.1 :: es true (RI .i64) v44 3 n h :: F)∧l= [(0,v1),(5,v55),(6,v44),(7,I a.2),(8,I z0)]) e w) p) ?_ ?_ ?_))))))))))))))
   ·clear f g1;intro d k1 z N b;revert z N;rintro y M ⟨f3,b5,_,rfl,i1,rfl,j0,rfl⟩;refine sr (va (B (decide (d.2 < (U.length:Int)))) (wln (W.seq (cn b (fun s3 b=>?_) (fun s3 b=>?_)))))
    ·refine W.skip (nrm (W.seq (W.block (sr (bn b fun v2 h1 b=>?_)))));obtain ⟨t4,t3,c4⟩:=Sl.at (S.mono (z3.trans (a4.trans (Z.trans i1)))) (aH h1);obtain ⟨j1,rfl,u3⟩:=t3;refine vx (ix kg S.m h1) (vx (l1 aL (c4 0 _ rfl)) (va (j1) (wln (sr (va (I d.1) (va (j1) (va (v44) (va (I a.2) (bn b fun y0 q0 b=>vx (ixO kP i.m q0) ?_)))))))));obtain ⟨u4,v3,d4⟩:=OA.at (i.mono (Z.trans i1)) q0;obtain rfl:=v3;refine vr (I y0) (rx (by kernel_rfl) (fF u_3 rfl (j0.on 1 rfl) (i.m.blk q0) (at1 (j:=0) d4 rfl))) (bn b fun q w3 b=>cl (iH j0 v2 y0 u3 w3) ?_);rintro f5 m0 e5 ⟨d1,rfl⟩;refine vv (I (w64 (d.1+q))) (wln (sr (va (I (w64 (d.1+q))) (va (B (decide ((w64 (d.1+q)) > 65535))) (wln (cn b (fun x3 b=>?_) (fun x3 b=>?_)))))))
     ·refine sr (va (Y) (wln (W.ret (bkr (thr ?_)))));obtain rfl:=si b;refine ⟨_,rfl,⟨rfl,?_⟩⟩;have y3:OA ab m0 (Y) [] []:=OA.nil (au _);have d3:=d1.addHole (e:=es true ab (Y) 52 [] ([]:List aa)) rfl;have m1:=d3.sD 3 [0];exact jn m0 ⟨(Y),[],m1,rfl,y3⟩
     refine W.skip (bkn (nrm (W.region (vv (I (w64 (d.2+1))) (WL.nil ?_)))));obtain rfl:=si b;exact ⟨_,rfl,jn m0 ⟨d1,rfl⟩⟩
    refine W.exit (thx ?_);obtain rfl:=si b;exact ⟨_,rfl,rfl,jn f3 ⟨j0,rfl⟩⟩
   ·exact jn x ⟨c1,rfl⟩
   rcases g with g | g
   ·intro A; revert A;rintro _ y M ⟨rfl,w1,j4,_,rfl,n4,rfl,E,e0,n1,rfl,d2⟩;refine bkr (thr (bkr (thr ?_)));obtain rfl:=si f;exact ⟨_,rfl,⟨rfl,jn w1 ⟨E,e0,n1,rfl,d2⟩⟩⟩
   rintro _ y M ⟨rfl,x1,k4,_,rfl,t0,rfl,g0,rfl⟩;refine bke (nrm (sr (va (I g) (va (B (decide (g > 0))) (wln (cn f (fun e2 f=>?_) (fun e2 f=>?_)))))))
   ·refine rD [] (Kp G0 [es true (RI .i64) v44 3 n h]) g0 ?_;intro z1 u0 h0;have w0:Kp G0 [es true (RI .i64) v44 3 n h] z1:=(Kp.cons (h0.on 1 rfl) Kp.nil0);refine ta 0 (v55) (ta 1 (v44) (ta 2 (I a.2) (bn f fun X P f=>tx 3 (fun c' s0=>ixO kP i.m P) ?_)));obtain ⟨f4,f2,o2⟩:=OA.at (i.mono (Z.trans (t0.trans u0))) P;obtain rfl:=f2;refine AC.takeK 4 (I X) w0 rfl (by kernel_rfl) (by kernel_rfl) (by kernel_rfl) (fun c' s0 hk=>(rx (by kernel_rfl) (fF u_3 rfl (hk.on 0 rfl) (i.m.blk P) (at1 (j:=0) o2 rfl)))) (ta 5 (v44) (ta 6 (I a.2) (ta 7 (I (w64 (a.2+1))) (bn f fun s R f=>tx 8 (fun c' s0=>ixO kP i.m R) ?_))));obtain ⟨g4,g2,p2⟩:=OA.at (i.mono (Z.trans (t0.trans u0))) R;obtain rfl:=g2;refine AC.takeK 9 (I s) w0 rfl (by kernel_rfl) (by kernel_rfl) (by kernel_rfl) (fun c' s0 hk=>(rx (by kernel_rfl) (fF u_3 rfl (hk.on 0 rfl) (i.m.blk R) (at1 (j:=0) p2 rfl)))) (ta 10 (I (w64 (s - 1))) (ta 11 (I g) (ta 12 (.agg #[I X,I (w64 (s - 1)),I g]) (bn f fun w4 i2 f=>o1 13 (gc 13 (gg a.1 (⟨X,(w64 (s - 1)),g⟩:aa) h0 o0.m i2) ?_)))));rintro x0 k0 o4 ⟨_,s2,i0,rfl,j2⟩;have q2:Kp G0 [es true (RI .i64) v44 3 n h] k0:=(Kp.cons (i0.on 1 rfl) Kp.nil0);refine ⟨.inr q2,ta 14 (x0) (dn (bkn (nrm (W.region (va (I a.2) (vv (I (w64 (a.2+1))) (WL.nil ?_)))))))⟩;obtain rfl:=si f;exact ⟨_,rfl,jn k0 ⟨x0,s2,i0,rfl,j2⟩⟩
   refine W.skip (bkn (nrm (W.region (va (I a.2) (vv (I (w64 (a.2+1))) (WL.nil ?_))))));obtain rfl:=si f;exact ⟨_,rfl,jn x1 ⟨v55,o,g0,rfl,o0.m⟩⟩
  refine W.exit (thx ?_);obtain rfl:=si b;exact ⟨_,rfl,rfl,jn x ⟨v55,o,c1,rfl,o0⟩⟩
 ·have k2:OA ab u (Y) [] []:=OA.nil (au _);have p1:=b3.addHole (e:=es true ab (Y) 52 [] ([]:List aa)) rfl;exact jn u ⟨(Y),[],p1,rfl,k2⟩
 rcases T with T | T
 ·intro A; revert A;rintro _ y M ⟨rfl,b2,l4,_,rfl,p4,rfl,v59,d0,q1,rfl,l2⟩;refine bkr (thr ?_);obtain rfl:=si f0;exact r1 (qq b2 ⟨v59,d0,q1,rfl,l2⟩)
 rintro _ y M ⟨rfl,c2,m4,_,rfl,q4,rfl,v57,b0,s1,rfl,m2⟩;refine bke (nrm (sr (vv (v57) (wln (W.ret ?_)))));obtain rfl:=si f0;have t1:=s1.sD 2 [0];exact r1 (qq c2 ⟨v57,b0,t1,rfl,m2⟩)
def aT (p0:List aa):Option (List aa):=
 (aS p0).bind fun e=>
 if (!e)=true then
 some ([]:List aa)
 else
 (aU (σ:=(List aa)×Int) (τ:=(List aa)) (((p0.length:Int) - 0).toNat+1) (fun a=>
 if (decide (a.2 < (p0.length:Int)))=true then
 (idx p0 a.2).bind fun c=>
 (cJ a.1 c).bind fun d=>
 some (.inl (d,(w64 (a.2+1))))
 else
 some (.inr (a.1))) (([]:List aa),0)).bind fun b=>
 some b
theorem ct (O0:Own c0 G F) (i:List aa) {r:List aa} (j:Sl ab c0 v1 i) (H:aT i=some r): Calls prog 36 #[v1] c0.w (ay c0 fun c v=>∃t y2,Own c G (es true ab t 52 y2 r :: F)∧v=t∧OA ab c t y2 r):=by
 unfold aT at H;refine en func36 rfl rfl (sr (va (Y) (wln (W.seq (sr (va (v1) (bn H fun j0 h3 H=>cl (dE O0 i j h3) ?_)))))));rintro v9 h l8 ⟨E,rfl⟩;refine va (B (!j0)) (wln (cn H (fun T H=>?_) (fun T H=>?_)))
 ·refine sr (va (Y) (wln (W.ret (thr ?_))));obtain rfl:=si H;have U:OA ab h (Y) [] []:=OA.nil (au _);have u:=E.addHole (e:=es true ab (Y) 52 [] ([]:List aa)) rfl;exact r1 (qq h ⟨(Y),[],u,rfl,U⟩)
 refine W.skip (nrm (sr (va (Y) (wln (W.seq (sr (va (v1) (vx (ln 3 aL j.m) (va (I 0) (wln (W.block (bn H fun t0 p k=>lp p (fun a=>Jn h fun c l=>∃v15 f,Own c G (es true ab v15 52 f a.1 :: F)∧l= [(3,v15),(9,v1),(10,I (i.length:Int)),(11,I a.2)]∧OA ab c v15 f a.1) (fun d ex e w=>ex= .exit 0∧(Jn h fun c l=>∃v17 g,Own c G (es true ab v17 52 g d :: F)∧l= [(3,v17)]∧OA ab c v17 g d) e w) ?_ ?_ ?_))))))))))))
 ·clear k p;intro a f1 S i0 H;revert S i0;rintro e_ w_ ⟨N,z0,_,rfl,f0,rfl,v15,f,n,rfl,q⟩;refine sr (va (B (decide (a.2 < (i.length:Int)))) (wln (W.seq (cn H (fun X H=>?_) (fun X H=>?_)))))
  ·refine W.skip (nrm (W.seq (W.block (sr (bn H fun b s H=>?_)))));obtain ⟨s0,Z,g0⟩:=Sl.at (j.mono (l8.trans f0)) (aH s);obtain rfl:=Z;refine vx (ix aL j.m s) (vx (lN 52 g0) (me (al 52 [I 0,I 0,I 0] n) ?_));rintro v34 x0 b1 ⟨w0,rfl,x⟩;refine md (sA 52 [I b.Lo,I b.Hi,I b.Val] 0 x ⟨rfl,rfl,rfl,trivial⟩) ?_;rintro y0 c1 o;refine wln (W.region (va (v15) (vx (leN 52 0 [I b.Lo,I b.Hi,I b.Val] (o.on 0 rfl)) ?_)));have y:=o.sD 2 [1,0];refine bn H fun v0 a0 H=>cl (gg a.1 b y q.m a0) ?_;rintro v39 P d1 ⟨_,h0,z,rfl,b0⟩;refine va (v39) (WL.nil (bkn (nrm (W.region (vv (I (w64 (a.2+1))) (WL.nil ?_))))));obtain rfl:=si H;refine ⟨_,rfl,?_⟩;have A:=z.sD 2 [0];exact jn P ⟨v39,h0,A,rfl,b0⟩
  refine W.exit (thx ?_);obtain rfl:=si H;exact ⟨_,rfl,rfl,jn N ⟨v15,f,n,rfl,q⟩⟩
 ·have d0:OA ab h (Y) [] []:=OA.nil (au _);have D:=E.addHole (e:=es true ab (Y) 52 [] ([]:List aa)) rfl;exact jn h ⟨(Y),[],D,rfl,d0⟩
 rintro _ e_ w_ ⟨rfl,R,a1,_,rfl,e1,rfl,v17,g,M,rfl,e0⟩;refine bke (nrm (sr (vv (v17) (wln (W.ret ?_)))));obtain rfl:=si k;exact r1 (qq R ⟨v17,g,M,rfl,e0⟩)
end Go.Proofs.Ytjghgpnafaoojaa
