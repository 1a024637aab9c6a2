/- Parts of the proofs of SnapReads, SnapTells, SnapSpoilt: the walk through the code, and plain Lean. No condition. -/
import Derived.WalkKit
import Derived.KernelRfl
import Derived.TacticsIn
import Derived.LoopNIn
import Derived.OrdersIn
import Derived.Laws.BytesString
import Derived.Laws.Concat
import Derived.Laws.Strings
import Derived.Laws.Strings2
import Derived.Laws.Strings3
import Derived.Laws.Slices
import Derived.Lib.ConvBytes
import Derived.Test.YtmncdniojmigeaaGreatDoorProg
import Derived.Shelf.Strings.Split
import Derived.Shelf.Strings.Cut
import Derived.Shelf.Strings.SlTrimAscii
import Derived.Shelf.Small.Wraps
import Derived.Shelf.Small.Strs
import Derived.Lib.ItoaMem
import Derived.Lib.LaidTab
import Derived.Shelf.Strconv.Itoa3
import Derived.Shelf.Strconv.Atoi
import Derived.Shelf.Strings.OnBuilder
import Derived.LaidEql
import Derived.Stop.Asserts
import Derived.RowKitTokens
import Derived.Elder7
set_option linter.unusedVariables false
set_option linter.unusedSimpArgs false
abbrev gn:=@Go.Addr.add_lit
abbrev xg:=@Array.empty_append
abbrev co:=@Array.getD_eq_getD_getElem?
abbrev bH:=@Array.getElem?_eq_none
abbrev fL:=@Array.getElem?_modify
abbrev wC:=@Array.length_toList
abbrev mf:=@Array.mem_of_getElem?
abbrev ax:=@Bool.and_eq_true
abbrev ut:=@Bool.eq_false_or_eq_true
abbrev bC:=@Bool.false_eq_true
abbrev kD:=@Bool.false_or
abbrev pS:=@Bool.not_eq_true'
abbrev jN:=@Bool.not_false
abbrev ci:=@Bool.not_true
abbrev gf:=@Bool.or_eq_false_iff
abbrev bh:=@Bool.or_eq_true
abbrev ol:=@Bool.true_and
abbrev jc:=@Go.ByteArray.toList_eq
abbrev kn:=@Go.DataW.trod_struct
abbrev uD:=@Go.WideShapes.add_plain
abbrev gF:=@Iff.rfl
abbrev jo:=@Int.ofNat_lt
abbrev fV:=@Int.toNat_natCast
abbrev iG:=@Go.IntKind.wrap_u64
abbrev rI:=@Go.IntKind.wrap_u8
abbrev lq:=@List.all_eq_true
abbrev aA:=@List.append_assoc
abbrev cS:=@List.append_nil
abbrev az:=@List.cons.inj
abbrev xr:=@List.cons.injEq
abbrev dd:=@List.cons_append
abbrev vG:=@List.contains_iff_mem
abbrev dt:=@List.count_append
abbrev wp:=@List.count_cons_self
abbrev wX:=@List.count_eq_zero
abbrev nB:=@List.count_le_length
abbrev tz:=@List.dropWhile_cons_of_neg
abbrev tw:=@List.dropWhile_cons_of_pos
abbrev qZ:=@List.drop_append_of_le_length
abbrev jM:=@List.drop_drop
abbrev dx:=@List.drop_eq_getElem_cons
abbrev iq:=@List.drop_left
abbrev lL:=@List.drop_of_length_le
abbrev nz:=@List.drop_take
abbrev tv:=@List.drop_zero
abbrev dO:=@List.eq_nil_of_length_eq_zero
abbrev xn:=@List.ext_getElem
abbrev ip:=@List.ext_getElem?
abbrev km:=@List.flatten_cons
abbrev jL:=@List.getD_eq_getElem?_getD
abbrev cL:=@List.getElem?_append_left
abbrev dr:=@List.getElem?_append_right
abbrev fr:=@List.getElem?_cons_succ
abbrev au:=@List.getElem?_cons_zero
abbrev jK:=@List.getElem?_drop
abbrev aq:=@List.getElem?_eq_getElem
abbrev cO:=@List.getElem?_eq_none
abbrev fU:=@List.getElem?_map
abbrev wB:=@List.getElem?_range
abbrev dN:=@List.getElem?_set_ne
abbrev dq:=@List.getElem?_set_self
abbrev eC:=@List.getElem?_take
abbrev bP:=@List.getElem?_toArray
abbrev cG:=@List.getElem_map
abbrev aw:=@List.getElem_mem
abbrev io:=@List.getElem_take
abbrev iX:=@List.head?_cons
abbrev ac:=@List.length_append
abbrev aj:=@List.length_cons
abbrev fq:=@List.length_drop
abbrev an:=@List.length_map
abbrev aM:=@List.length_nil
abbrev mc:=@List.length_replicate
abbrev gE:=@List.length_set
abbrev ae:=@List.length_singleton
abbrev aC:=@List.length_take
abbrev fH:=@List.map_append
abbrev ff:=@List.map_congr_left
abbrev iH:=@List.map_cons
abbrev ny:=@List.map_id
abbrev fE:=@List.map_map
abbrev dc:=@List.mem_append_left
abbrev iD:=@List.mem_append_right
abbrev dJ:=@List.mem_cons
abbrev aI:=@List.mem_cons_of_mem
abbrev aP:=@List.mem_cons_self
abbrev eY:=@List.mem_of_getElem?
abbrev dM:=@List.mem_of_mem_take
abbrev wW:=@List.mem_singleton
abbrev cR:=@List.nil_append
abbrev eq:=@List.not_mem_nil
abbrev cB:=@List.set_cons_zero
abbrev vF:=@List.singleton_append
abbrev xk:=@List.size_toArray
abbrev xm:=@List.take_append
abbrev tu:=@List.take_left
abbrev cg:=@List.take_length
abbrev bw:=@List.take_of_length_le
abbrev jb:=@List.take_succ_cons
abbrev ay:=@List.take_succ_eq_append_getElem
abbrev jJ:=@List.take_take
abbrev nx:=@List.take_zero
abbrev eX:=@Nat.add_mul
abbrev wV:=@Nat.add_sub_cancel
abbrev pR:=@Nat.add_zero
abbrev mb:=@Nat.ble_eq_true_of_le
abbrev vD:=@Nat.div_lt_iff_lt_mul
abbrev xq:=@Nat.div_lt_self
abbrev ma:=@Nat.eq_of_beq_eq_true
abbrev jI:=@Nat.eq_zero_or_pos
abbrev bD:=@Nat.le_of_ble_eq_true
abbrev aB:=@Nat.le_refl
abbrev dI:=@Nat.le_trans
abbrev bJ:=@Nat.lt_of_lt_of_le
abbrev aG:=@Nat.lt_or_ge
abbrev iF:=@Nat.lt_succ_self
abbrev eR:=@Nat.min_eq_left
abbrev tt:=@Nat.mod_lt
abbrev lK:=@Nat.mul_comm
abbrev iM:=@Nat.mul_le_mul_right
abbrev cF:=@Nat.ne_of_lt
abbrev nv:=@Nat.one_mul
abbrev wo:=@Nat.pow_le_pow_right
abbrev fD:=@Nat.succ_pos
abbrev gk:=@Nat.zero_add
abbrev dw:=@Nat.zero_le
abbrev dv:=@Nat.zero_lt_one
abbrev pQ:=@Nat.zero_mul
abbrev xj:=@Ne.symm
abbrev ur:=@Go.Oper.semAt_eq
abbrev xi:=@Go.Oper.uponIn_value
abbrev uC:=@Option.bind_eq_some_iff
abbrev gj:=@Option.bind_some
abbrev xl:=@Option.getD_some
abbrev vB:=@Option.map_eq_some_iff
abbrev eQ:=@Option.map_some
abbrev ao:=@Option.some.inj
abbrev aQ:=@Option.some.injEq
abbrev kl:=@Go.Result.andThen_ok
abbrev aY:=@Go.RowKit.Below.heap_alloc
abbrev eV:=@Go.RowKit.Below.refl
abbrev wU:=@Go.RowKit.Below.trans
abbrev tr:=@Go.RowKit.frozen?_alloc_cells
abbrev eo:=@Go.Sem.run_bind
abbrev vA:=@Go.Sem.run_pure
abbrev kC:=@Sum.inl.injEq
abbrev cz:=@Go.World.cell?_alloc_lt
abbrev cy:=@Go.World.cell?_of_block
abbrev gK:=@Go.World.frozen?_alloc_old
abbrev wT:=@Go.World.keptBut_mono
abbrev gB:=@Go.World.var?_cell
abbrev bc:=@beq_eq_false_iff_ne
abbrev bd:=@beq_iff_eq
abbrev lj:=@beq_self_eq_true
abbrev wA:=@bne_eq_false_iff_eq
abbrev lH:=@bne_iff_ne
abbrev kf:=@Go.cell_of_row
abbrev wS:=@cond_false
abbrev cP:=@congrArg
abbrev bQ:=@decide_eq_false_iff_not
abbrev fk:=@decide_eq_true
abbrev aa:=@decide_eq_true_eq
abbrev iL:=@decide_true
abbrev rK:=@dif_neg
abbrev rJ:=@dif_pos
abbrev wQ:=@Go.execOp_put
abbrev wg:=@Go.getD_set_ne
abbrev wP:=@Go.grownCap_le_maxLen
abbrev gW:=@Go.heap_alloc_new
abbrev fY:=@if_false
abbrev ag:=@if_neg
abbrev ai:=@if_pos
abbrev gi:=@if_true
abbrev kb:=@not_false_eq_true
abbrev wK:=@of_decide_eq_false
abbrev eT:=@of_decide_eq_true
abbrev kO:=@or_false
abbrev wJ:=@Go.ready_mono
abbrev xh:=@Go.run_bytesToString
abbrev aD:=@Go.run_callFunc_extern
abbrev ou:=@Go.run_sliceAt_string
abbrev di:=@Go.run_underlying
abbrev pT:=@Go.wpIn_mono
abbrev rL:=@Go.wpListIn_plain
namespace Go.Lt
structure Fr where
 n:Nat
 df:List Deferred
 ro:Option Nat
instance:CoeOut Fr Nat:=⟨Fr.n⟩
def fen (r:Option Nat):Fence:={ Fence.wide with round:=r}
def act (n:Fr) (e:Nat→Value):Act:={ tmps:=((List.range n.n).map e).toArray,defers:=n.df}
def ev (n:Nat) (e:Nat→Value):Operand→Value
 | .tmp t=>cond (Nat.ble (t+1) n) (e t) undef
 | .const v=>v
 | .global g=> .pointer (some ⟨g,0,none⟩)
 | .func f=> .func (.func f) #[] #[]
def up (e:Nat→Value) (d:Nat) (v:Value):Nat→Value:=fun t=>cond (Nat.beq t d) v (e t)
def upO (e:Nat→Value):Option Nat→Value→(Nat→Value)
 | some d,v=>up e d v
 | none,_=>e
theorem il (n:Fr) (e:Nat→Value):(act n e).eval=ev n e:=by
 funext x
 cases x with
 | tmp t=>
  simp only [Act.eval,act,ev];by_cases h:t < n.n
  ·have:Nat.ble (t+1) n.n=true:=mb h;simp [h,this]
  ·have:Nat.ble (t+1) n.n=false:=by
    cases hb:Nat.ble (t+1) n.n with
    | false=>rfl
    | true=>exact absurd (bD hb) h
   simp [h,this]
 | const v=>rfl
 | global g=>rfl
 | func f=>rfl
theorem lm (n:Fr) (e:Nat→Value) (d:Option Nat) (v:Value):(act n e).put d v=act n (upO e d v):=by
 cases d with
 | none=>rfl
 | some d=>
  simp only [Act.put,act,upO]
  congr 1
  apply Array.ext
  ·simp
  ·intro i h1 h2;simp only [xk,an,List.length_range,Array.size_setIfInBounds] at h1 h2;by_cases hi:d=i
   ·subst hi; simp [up]
   ·have:Nat.beq i d=false:=by
     cases hb:Nat.beq i d with
     | false=>rfl
     | true=>exact absurd (ma hb).symm hi
    simp [up,hi,this]
def wD:Exit→Prop
 | .panic _=>False
 | .outgrown=>False
 | _=>True
def pl (n:Fr) (Q:Exit→(Nat→Value)→World→Prop):Exit→Act→World→Prop:=fun x a w=>wD x∧∃e,a=act n e∧Q x e w
def W (P:Program) (n:Fr) (c:Code) (Q:Exit→(Nat→Value)→World→Prop) (e:Nat→Value) (w:World):Prop:=c.wpIn (fen n.ro) 0 P (pl n Q) (act n e) w
def lO (K:(Nat→Value)→World→Prop) (Q:Exit→(Nat→Value)→World→Prop):Exit→(Nat→Value)→World→Prop
 | .normal,e,w=>K e w
 | x,e,w=>Q x e w
def iW (id:Nat) (Q:Exit→(Nat→Value)→World→Prop):Exit→(Nat→Value)→World→Prop
 | .exit i,e,w=>cond (Nat.beq i id) (Q .normal e w) (Q (.exit i) e w)
 | x,e,w=>Q x e w
section
variable {P:Program} {n:Fr} {Q Q':Exit→(Nat→Value)→World→Prop} {e:Nat→Value} {w:World} {a b:Code}
theorem W.mono (h:W P n a Q e w) (hq:∀x e w,Q x e w→Q' x e w):W P n a Q' e w:=
 pT h fun x _ w ⟨ht,e,ha,hQ⟩=>⟨ht,e,ha,hq x e w hQ⟩
theorem W.seq (h:W P n a (lO (W P n b Q) Q) e w):W P n (a.seq b) Q e w:=
 wpIn_seq (pT h fun x a' w' ⟨ht,e',ha,hQ⟩=>by
  subst ha
  cases x with
  | normal=>exact hQ
  | _=>exact ⟨ht,e',rfl,hQ⟩)
theorem W.seqJ (J:(Nat→Value)→World→Prop) (h:W P n a (lO J Q) e w) (hJ:∀e w,J e w→W P n b Q e w):W P n (a.seq b) Q e w:=
 W.seq (W.mono h fun x e w hx=>by cases x <;> first | exact hJ _ _ hx | exact hx)
theorem W.skip (h:Q .normal e w):W P n .skip Q e w:=wpIn_skip ⟨trivial,e,rfl,h⟩
theorem W.ret (h:Q .ret e w):W P n .ret Q e w:=wpIn_ret ⟨trivial,e,rfl,h⟩
theorem W.exit {id:Nat} (h:Q (.exit id) e w):W P n (.exit id) Q e w:=wpIn_exit ⟨trivial,e,rfl,h⟩
theorem W.block {id:Nat} (h:W P n a (iW id Q) e w):W P n (.block id a) Q e w:=
 wpIn_block (pT h fun x a' w' ⟨ht,e',ha,hQ⟩=>by
  subst ha
  cases x with
  | exit i=>
   simp only [Exit.inBlock];by_cases hi:i=id
   ·subst hi;rw [ai rfl];exact ⟨trivial,e',rfl,by simpa [iW] using hQ⟩
   ·rw [ag hi];have:Nat.beq i id=false:=by
     cases hb:Nat.beq i id with
     | false=>rfl
     | true=>exact absurd (ma hb) hi
    exact ⟨trivial,e',rfl,by simpa [iW,this] using hQ⟩
  | _=>exact ⟨ht,e',rfl,hQ⟩)
theorem W.cond {c:Operand} {t:Bool} (hc:ev n e c= .bool t) (ht:t=true→W P n a Q e w) (hf:t=false→W P n b Q e w):W P n (.cond c a b) Q e w:=
 wpIn_cond_split (by rw [il]; exact hc) ht hf
def WL (P:Program) (ops:Array Oper) (n:Fr) (Q:Exit→(Nat→Value)→World→Prop) (l:List Oper) (e:Nat→Value) (w:World):Prop:=
 wpListIn (fen n.ro) 0 P ops (pl n Q) l (act n e) w
theorem W.region {id:Nat} {l:List Oper} (h:WL P l.toArray n Q l e w):W P n (.region id l.toArray false) Q e w:=wpIn_region_lit h
variable {ops:Array Oper} {o:Oper} {rest:List Oper}
theorem WL.nil (h:Q .normal e w):WL P ops n Q [] e w:=⟨trivial,e,rfl,h⟩
theorem kI {r:Option Nat} {ρ:Operand→Value} {w w':World} {x:Next} (h:(execOp ρ o).run P w= .ok x w') (hx:∀d,x≠ .defer d):(o.semAt r ρ).run P w= .ok x w':=by
 by_cases hd:∀c,o.op≠ .defer c
 ·rw [ur r ρ o hd]; exact h
 ·obtain ⟨c,hc⟩:=Classical.not_forall.1 hd;have hc:=Classical.not_not.1 hc;unfold execOp at h;rw [hc] at h;simp only [eo,vA] at h
  cases hr:(resolve ρ c o.type).run P w with
  | ok d w1=>rw [hr] at h; simp only [Result.andThen,Result.ok.injEq] at h; exact absurd h.1.symm (hx d)
  | halt h1 w1=>rw [hr] at h; simp [Result.andThen] at h
theorem pF {r:Option Nat} {k:Nat} {f:FuncId} {args:Array Value} {w:World} {R:Ending→World→Prop} (h:Calls P f args w R):CallsIn (fen r) k P f args w R:=(callsIn_wide (n:=k)).2 h
theorem sf {v:Value} {w':World} {K:Act→World→Prop} {Qa:Exit→Act→World→Prop} (hr:(execOp (ev n e) o).run P w= .ok (.value v) w') (h:K (act n (upO e o.dst v)) w'):o.wpIn (fen n.ro) 0 P (act n e) w K Qa:=by
 refine ⟨fun _ _=>trivial,?_⟩;rw [il,kI hr (by simp),xi,lm];exact h
theorem uw {w':World} {K:Act→World→Prop} {Qa:Exit→Act→World→Prop} (hr:(execOp (ev n e) o).run P w= .ok .skip w') (h:K (act n (upO e o.dst undef)) w'):o.wpIn (fen n.ro) 0 P (act n e) w K Qa:=by
 refine ⟨fun _ _=>trivial,?_⟩;rw [il,kI hr (by simp),Oper.uponIn_skip,lm];exact h
theorem qE {f:FuncId} {args:Array Value} {w':World} {K:Act→World→Prop} {Qa:Exit→Act→World→Prop} (hr:(execOp (ev n e) o).run P w= .ok (.enter f args) w')
  (hc:Calls P f args w' fun x w''=>∃v,x= .returned v∧K (act n (upO e o.dst v)) w''):o.wpIn (fen n.ro) 0 P (act n e) w K Qa:=by
 refine ⟨fun _ _=>trivial,?_⟩;rw [il,kI hr (by simp),Oper.uponIn_enter];refine ⟨fun h=>(by cases h),(pF hc).mono ?_⟩;rintro x w'' ⟨v,rfl,h⟩;simp only [lm];exact h
theorem WL.val {v:Value} {w':World} (hg:o.guard=none) (hr:(execOp (ev n e) o).run P w= .ok (.value v) w') (h:WL P ops n Q rest (upO e o.dst v) w'):WL P ops n Q (o :: rest) e w:=
 rL hg fun K hK=>sf hr (hK _ _ h)
theorem WL.do_ {w':World} (hg:o.guard=none) (hr:(execOp (ev n e) o).run P w= .ok .skip w') (h:WL P ops n Q rest (upO e o.dst undef) w'):WL P ops n Q (o :: rest) e w:=
 rL hg fun K hK=>uw hr (hK _ _ h)
theorem WL.call {f:FuncId} {args:Array Value} {w':World} (hg:o.guard=none) (hr:(execOp (ev n e) o).run P w= .ok (.enter f args) w')
  (hc:Calls P f args w' fun x w''=>∃v,x= .returned v∧WL P ops n Q rest (upO e o.dst v) w''):WL P ops n Q (o :: rest) e w:=
 rL hg fun K hK=>qE hr (hc.mono fun x w'' ⟨v,hx,h⟩=>⟨v,hx,hK _ _ h⟩)
def yl (ops:Array Oper) (n:Nat) (e:Nat→Value) (j:Nat):Option Bool:=
 match (ops[j]?).bind Oper.dst with
 | some d=>match ev n e (.tmp d) with
  | .bool b=>some b
  | _=>none
 | none=>none
def ec (ops:Array Oper) (n:Nat) (e:Nat→Value) (o:Oper):Bool:=
 match o.guard with
 | none=>true
 | some (j,want)=>yl ops n e j==some want
theorem iI (ops:Array Oper) (n:Fr) (e:Nat→Value) (o:Oper) (h:∀d,(∃j:Nat,(ops[j]?).bind Oper.dst=some d)→d < n.n):
  Region.wanted o (yielded ops (act n e).tmps)=ec ops n e o:=by
 unfold Region.wanted ec
 cases hg:o.guard with
 | none=>rfl
 | some jw=>
  obtain ⟨j,want⟩:=jw;simp only
  congr 1
  unfold yielded yl
  cases hd:(ops[j]?).bind Oper.dst with
  | none=>rfl
  | some d=>
   have hdn:=h d ⟨j,hd⟩;have:Nat.ble (d+1) n.n=true:=mb hdn;simp only [act,ev,gj,this,cond_true];simp only [bP,fU,wB hdn,eQ]
   cases e d <;> rfl
def cU (n:Nat):List Oper→Bool
 | []=>true
 | o :: l=>(match o.dst with | some d=>Nat.ble (d+1) n | none=>true) && cU n l
theorem fu {n:Nat} {l:List Oper} (h:cU n l=true) (d:Nat) (hd:∃j:Nat,(l.toArray[j]?).bind Oper.dst=some d):d < n:=by
 obtain ⟨j,hj⟩:=hd;simp only [bP] at hj
 induction l generalizing j with
 | nil=>simp at hj
 | cons o l ih=>
  simp only [cU,ax] at h
  cases j with
  | zero=>
   simp only [au,gj] at hj;rw [hj] at h;exact bD h.1
  | succ j=>exact ih h.2 j (by simpa using hj)
theorem WL.pass {l:List Oper} (hs:cU n l=true) (hw:ec l.toArray n e o=false) (h:WL P l.toArray n Q rest (upO e o.dst undef) w):WL P l.toArray n Q (o :: rest) e w:=by
 have hww:Region.wanted o (yielded l.toArray (act n e).tmps)=false:=by rw [iI _ _ _ _ (fu hs)]; exact hw
 unfold WL wpListIn;rw [ag (by rw [hww]; simp),lm];exact ⟨fun _ _=>trivial,h⟩
theorem WL.want {l:List Oper} (hs:cU n l=true) (hw:ec l.toArray n e o=true) (h:WL P l.toArray n Q ({ o with guard:=none} :: rest) e w):WL P l.toArray n Q (o :: rest) e w:=by
 have hww:Region.wanted o (yielded l.toArray (act n e).tmps)=true:=by rw [iI _ _ _ _ (fu hs)]; exact hw
 have hg:Region.wanted ({ o with guard:=none}:Oper) (yielded l.toArray (act n e).tmps)=true:=rfl;unfold WL wpListIn at h⊢;rw [ai hww];rw [ai hg] at h;exact h
theorem W.join (J:(Nat→Value)→World→Prop) (h:W P n a (lO J (fun _ _ _=>False)) e w) (hJ:∀e w,J e w→Q .normal e w):W P n a Q e w:=
 W.mono h fun x e w hx=>by cases x <;> first | exact hJ _ _ hx | exact hx.elim
theorem nrm {K:(Nat→Value)→World→Prop} (h:K e w):lO K Q .normal e w:=h
theorem thx {K:(Nat→Value)→World→Prop} {i:Nat} (h:Q (.exit i) e w):lO K Q (.exit i) e w:=h
theorem thr {K:(Nat→Value)→World→Prop} (h:Q .ret e w):lO K Q .ret e w:=h
theorem bkn {i:Nat} (h:Q .normal e w):iW i Q .normal e w:=h
theorem bkr {i:Nat} (h:Q .ret e w):iW i Q .ret e w:=h
theorem bke {i:Nat} (h:Q .normal e w):iW i Q (.exit i) e w:=by
 have:Nat.beq i i=true:=Nat.beq_refl i;simpa [iW,this] using h
theorem bko {i j:Nat} (hij:Nat.beq j i=false) (h:Q (.exit j) e w):iW i Q (.exit j) e w:=by simpa [iW,hij] using h
theorem WL.valb {t b:Bool} {w':World} (ht:t=b) (hg:o.guard=none) (hr:(execOp (ev n e) o).run P w= .ok (.value (.bool t)) w') (h:WL P ops n Q rest (upO e o.dst (.bool b)) w'):WL P ops n Q (o :: rest) e w:=by
 subst ht;exact WL.val hg hr h
theorem WL.val0 {v:Value} (hg:o.guard=none) (hr:(execOp (ev n e) o).run P w= .ok (.value v) w) (h:WL P ops n Q rest (upO e o.dst v) w):WL P ops n Q (o :: rest) e w:=WL.val hg hr h
theorem WL.valb0 {t b:Bool} (ht:t=b) (hg:o.guard=none) (hr:(execOp (ev n e) o).run P w= .ok (.value (.bool t)) w) (h:WL P ops n Q rest (upO e o.dst (.bool b)) w):WL P ops n Q (o :: rest) e w:=WL.valb ht hg hr h
def ed {σ τ:Type}:Nat→(σ→Option (σ ⊕ τ))→σ→Option τ
 | 0,_,_=>none
 | n+1,f,s=>(f s).bind fun x=>match x with
  | .inl s'=>ed n f s'
  | .inr t=>some t
def lpQ {σ τ:Type} (F:σ→(Nat→Value)→World→Prop) (Out:τ→Exit→(Nat→Value)→World→Prop) (x:σ ⊕ τ):Exit→(Nat→Value)→World→Prop
 | .normal,e,w=>∃s,x= .inl s∧F s e w
 | ex,e,w=>∃t,x= .inr t∧Out t ex e w
theorem W.loop {σ τ:Type} {step:σ→Option (σ ⊕ τ)} (F:σ→(Nat→Value)→World→Prop) (Out:τ→Exit→(Nat→Value)→World→Prop)
  (hb:∀s x e w,step s=some x→F s e w→W P n a (lpQ F Out x) e w) {fuel:Nat} {s:σ} {t:τ} (H:ed fuel step s=some t) (h0:F s e w)
  (hQ:∀x e w,Out t x e w→Q x e w):W P n (.loop a) Q e w:=by
 refine wpIn_loop_rounds fuel ?_
 induction fuel generalizing s e w with
 | zero=>cases H
 | succ k ih=>
  rw [roundsIn_succ];simp only [ed] at H
  cases hs:step s with
  | none=>rw [hs] at H; cases H
  | some x=>
   rw [hs] at H;refine pT (hb s x e w hs h0) ?_;rintro y a' w' ⟨ht,e',rfl,hq⟩
   cases x with
   | inl s'=>
    cases y with
    | normal=>
     obtain ⟨s1,h1,h2⟩:=hq;cases h1;exact ih H h2
    | _=>obtain ⟨t1,h1,_⟩:=hq; cases h1
   | inr t'=>
    have:t'=t:=by simpa using H
    subst this
    cases y with
    | normal=>obtain ⟨s1,h1,_⟩:=hq; cases h1
    | _=>obtain ⟨t1,h1,h2⟩:=hq; cases h1; exact ⟨ht,e',rfl,hQ _ _ _ h2⟩
def ar:List Value→Nat→Value
 | [],_=>undef
 | v :: _,0=>v
 | _ :: l,t+1=>ar l t
def iC (P:Program) (fn:Func) (n:Fr) (R:Ending→World→Prop):Exit→(Nat→Value)→World→Prop
 | .normal,e,w=>∃v,(results fn (act n e).tmps).run P w= .ok v w∧R (.returned v) w
 | .ret,e,w=>∃v,(results fn (act n e).tmps).run P w= .ok v w∧R (.returned v) w
 | _,_,_=>False
theorem vz (n:Nat) (l:List Value) (h:l.length≤n):act ⟨n,[],none⟩ (ar l)= { tmps:=l.toArray++Array.replicate (n - l.length) undef,defers:=[]}:=by
 unfold act
 congr 1
 apply Array.ext';apply xn
 ·simp; omega
 ·intro i h1 h2;simp only [cG,List.getElem_range,Array.toList_append,Array.toList_replicate];have key:∀(l:List Value) (i:Nat) (h:i < l.length),ar l i=l[i]:=by
   intro l
   induction l with
   | nil=>intro i h; simp at h
   | cons v l ih=>
    intro i h
    cases i with
    | zero=>rfl
    | succ i=>exact ih i (by simpa using h)
  have key2:∀(l:List Value) (i:Nat) (h:l.length≤i),ar l i=undef:=by
   intro l
   induction l with
   | nil=>intro i h; rfl
   | cons v l ih=>
    intro i h
    cases i with
    | zero=>simp at h
    | succ i=>exact ih i (by simpa using h)
  by_cases hi:i < l.length
  ·rw [List.getElem_append_left hi]; exact key l i hi
  ·rw [List.getElem_append_right (by omega)]; rw [key2 l i (by omega)]; simp
theorem enter {f:FuncId} {fn:Func} {code:Code} {n:Nat} {l:List Value} {w:World} {R:Ending→World→Prop} (hf:P.funcs[f]? = some fn) (hb:fn.body=some code) (hn:fn.ntmps=n)
  (hl:Nat.ble l.length n=true) (h:W P ⟨n,[],none⟩ code (iC P fn ⟨n,[],none⟩ R) (ar l) w):Calls P f l.toArray w R:=by
 subst hn;have hl:=bD hl;refine (callsIn_wide (n:=0)).1 (callsIn_of_wp hf hb trivial ?_);rw [xk,←vz _ l hl];refine pT h ?_;rintro x a w' ⟨_,e',rfl,hq⟩
 cases x <;> first | exact ⟨rfl,hq⟩ | exact hq.elim
theorem ft (n:Fr) (e:Nat→Value) (t:Nat):(act n e).tmps.getD t undef=ev n e (.tmp t):=by
 rw [←il]; rfl
theorem wI {fn:Func} {R:Ending→World→Prop} (hr:fn.results= #[]) (h:R (.returned (.tuple #[])) w):iC P fn n R .ret e w:=
 ⟨_,results_none hr _ _ _,h⟩
theorem wR {fn:Func} {R:Ending→World→Prop} (hr:fn.results= #[]) (h:R (.returned (.tuple #[])) w):iC P fn n R .normal e w:=
 ⟨_,results_none hr _ _ _,h⟩
theorem uL {fn:Func} {R:Ending→World→Prop} {t:Nat} {v:Value} (hr:fn.results= #[.tmp t]) (hv:ev n e (.tmp t)=v) (h:R (.returned v) w):iC P fn n R .ret e w:=
 ⟨_,results_tmp hr _ _ _,by rw [ft,hv]; exact h⟩
theorem wH {fn:Func} {R:Ending→World→Prop} {t u:Nat} {v v':Value} (hr:fn.results= #[.tmp t,.tmp u]) (hv:ev n e (.tmp t)=v) (hu:ev n e (.tmp u)=v') (h:R (.returned (.tuple #[v,v'])) w):iC P fn n R .ret e w:=
 ⟨_,results_tmp2 hr _ _ _,by rw [ft,ft,hv,hu]; exact h⟩
def ups (e:Nat→Value):List (Nat×Value)→(Nat→Value)
 | []=>e
 | (t,v) :: l=>up (ups e l) t v
def holds (e:Nat→Value):List (Nat×Value)→Prop
 | []=>True
 | (t,v) :: l=>e t=v∧holds e l
theorem tB (e:Nat→Value) {t:Nat} {v:Value} (h:e t=v):up e t v=e:=by
 funext i
 unfold up;by_cases hb:Nat.beq i t=true
 ·rw [hb,ma hb]; exact h.symm
 ·simp [hb]
theorem oY:∀{l:List (Nat×Value)} {e:Nat→Value},holds e l→e=ups e l
 | [],_,_=>rfl
 | (t,v) :: l,e,h=>by
  have:=oY (l:=l) h.2;rw [ups,←this];exact (tB e h.1).symm
end
def w64 (n:Int):Int:=IntKind.i64.wrap n
def w32 (n:Int):Int:=IntKind.i32.wrap n
def oL (x y:Int):Int:=if y > x then y else x
def mW (x y:Int):Int:=if y < x then y else x
theorem bs {α β:Type} {x:Option α} {f:α→Option β} {r:β} (h:x.bind f=some r):∃a,x=some a∧f a=some r:=by
 cases x with
 | none=>cases h
 | some a=>exact ⟨a,rfl,h⟩
theorem it {α:Type} {b:Bool} {x y:Option α} {r:α} (hb:b=true) (h:(if b=true then x else y)=some r):x=some r:=by rw [ai hb] at h; exact h
theorem ie {α:Type} {b:Bool} {x y:Option α} {r:α} (hb:b=false) (h:(if b=true then x else y)=some r):y=some r:=by rw [ag (by simp [hb])] at h; exact h
def orE (t:Bool) (x:Option Bool):Option Bool:=if t=true then some true else x
def cj (t:Bool) (x:Option Bool):Option Bool:=if t=true then x else some false
theorem orT {t:Bool} {x:Option Bool} {d:Bool} (ht:t=true) (h:orE t x=some d):d=true:=by simp [orE,ht] at h; exact h
theorem orF {t:Bool} {x:Option Bool} {d:Bool} (ht:t=false) (h:orE t x=some d):x=some d:=by simpa [orE,ht] using h
theorem anT {t:Bool} {x:Option Bool} {d:Bool} (ht:t=true) (h:cj t x=some d):x=some d:=by simpa [cj,ht] using h
theorem anF {t:Bool} {x:Option Bool} {d:Bool} (ht:t=false) (h:cj t x=some d):d=false:=by simp [cj,ht] at h; exact h
end Go.Lt
namespace Go.Lt
structure Cx where
 w:World
 A:Nat→Nat→Prop
 t:Nat→Nat→Option Nat
structure Cx.le (c c':Cx):Prop where
 os:c'.w.os=c.w.os
 output:c'.w.output=c.w.output
 size:c.w.heap.size≤c'.w.heap.size
 cell:∀k o,k < c.w.heap.size→¬c.A k o→c'.w.cell? ⟨k,o,none⟩=c.w.cell? ⟨k,o,none⟩∧¬c'.A k o
 block:∀k,k < c.w.heap.size→(∀o,¬c.A k o)→c'.w.heap[k]? = c.w.heap[k]?
 frz:∀a,a.block < c.w.heap.size→¬c.A a.block a.off→c'.w.frozen? a=c.w.frozen? a
 t:∀g k b,c.t g k=some b→c'.t g k=some b
theorem Cx.le.refl (c:Cx):c.le c:=⟨rfl,rfl,aB _,fun _ _ _ h=>⟨rfl,h⟩,fun _ _ _=>rfl,fun _ _ _=>rfl,fun _ _ _ h=>h⟩
theorem Cx.le.trans {a b c:Cx} (h:a.le b) (k:b.le c):a.le c:=
 ⟨k.os.trans h.os,k.output.trans h.output,dI h.size k.size,fun i o hi hA=>by
  obtain ⟨h1,h2⟩:=h.cell i o hi hA;obtain ⟨k1,k2⟩:=k.cell i o (bJ hi h.size) h2;exact ⟨k1.trans h1,k2⟩,fun i hi hA=>(k.block i (bJ hi h.size) fun o=>(h.cell i o hi (hA o)).2).trans (h.block i hi hA),
  fun a ha hA=>(k.frz a (bJ ha h.size) (h.cell _ _ ha hA).2).trans (h.frz a ha hA),fun g i b hb=>k.t g i b (h.t g i b hb)⟩
structure Cx.lw (c c':Cx):Prop where
 os:c'.w.os=c.w.os
 output:c'.w.output=c.w.output
 size:c.w.heap.size≤c'.w.heap.size
 cell:∀k o,k < c.w.heap.size→¬c.A k o→c'.w.cell? ⟨k,o,none⟩=c.w.cell? ⟨k,o,none⟩∧¬c'.A k o
 block:∀k vs T f,c.w.heap[k]? = some (.cells vs T f)→(∀o,¬c.A k o)→c'.w.heap[k]? = c.w.heap[k]?
 frz:∀a,a.block < c.w.heap.size→¬c.A a.block a.off→c'.w.frozen? a=c.w.frozen? a
 t:∀g k b,c.t g k=some b→c'.t g k=some b
theorem Cx.le.lw {c c':Cx} (h:c.le c'):c.lw c':=⟨h.os,h.output,h.size,h.cell,fun k _ _ _ hk hA=>h.block k (Array.getElem?_eq_some_iff.1 hk).1 hA,h.frz,h.t⟩
instance {c c':Cx}:Coe (c.le c') (c.lw c'):=⟨Cx.le.lw⟩
structure Cx.but (D:Nat→Prop) (c c':Cx):Prop where
 le:c.le c'
 t:c'.t=c.t
 same:∀k,k < c.w.heap.size→¬D k→c'.w.heap[k]? = c.w.heap[k]?∧∀o,c'.A k o↔c.A k o
def Gr (w w':World):Prop:=w.keptBut w' (fun _=>False)∧(∀a,a.block < w.heap.size→w'.frozen? a=w.frozen? a)∧w.heap.size≤w'.heap.size
theorem Gr.frame {w w':World} (h:Gr w w') (may:MemPlace→Prop):w.keptBut w' may:=wT (fun _ f=>f.elim) h.1
theorem Cx.le.grown {w:World} {c':Cx} (h:Cx.le ⟨w,fun _ _=>False,fun _ _=>none⟩ c'):Gr w c'.w:=
 ⟨⟨h.os,h.output,fun i hi=>by
  rw [h.block i hi fun _=>id];have:=World.keptBut_refl w fun _=>False;exact this.2.2 i hi⟩,fun a ha=>h.frz a ha id,h.size⟩
structure Im (c:Cx) (b o:Nat) (v:Value):Prop where
 lt:b < c.w.heap.size
 nA:¬c.A b o
 cell:c.w.cell? ⟨b,o,none⟩=some v
theorem Im.lw {c c':Cx} {b o:Nat} {v:Value} (h:Im c b o v) (k:c.lw c'):Im c' b o v:=by
 obtain ⟨h1,h2⟩:=k.cell b o h.lt h.nA;exact ⟨bJ h.lt k.size,h2,h1.trans h.cell⟩
theorem Im.mono {c c':Cx} {b o:Nat} {v:Value} (h:Im c b o v) (k:c.le c'):Im c' b o v:=h.lw k.lw
structure Rp (α:Type) where
 size:Nat
 cells:Cx→List Value→α→Prop
 len:∀{c l x},cells c l x→l.length=size
 one:∀{c l x},cells c l x→∀v∈l,v.oneCell'=true
 mono:∀{c c' l x},c.lw c'→cells c l x→cells c' l x
def RI (k:IntKind):Rp Int where
 size:=1
 cells:=fun _ l n=>l= [.int k n]
 len:=fun h=>by simp [h]
 one:=fun h v hv=>by rw [h] at hv; simp at hv; subst hv; rfl
 mono:=fun _ h=>h
def RB:Rp Bool where
 size:=1
 cells:=fun _ l n=>l= [.bool n]
 len:=fun h=>by simp [h]
 one:=fun h v hv=>by rw [h] at hv; simp at hv; subst hv; rfl
 mono:=fun _ h=>h
def RS:Rp ByteArray where
 size:=1
 cells:=fun _ l n=>l= [.string n]
 len:=fun h=>by simp [h]
 one:=fun h v hv=>by rw [h] at hv; simp at hv; subst hv; rfl
 mono:=fun _ h=>h
def Sl {α:Type} (R:Rp α) (c:Cx) (v:Value) (xs:List α):Prop:=
 ∃a cap,v= .slice a xs.length cap∧xs.length≤cap∧cap≤maxLen∧
  ∀i x,xs[i]? = some x→∃b off l,a=some ⟨b,off,none⟩∧R.cells c l x∧∀j u,l[j]? = some u→Im c b (off+i * R.size+j) u
theorem Sl.lw {α:Type} {R:Rp α} {c c':Cx} {v:Value} {xs:List α} (h:Sl R c v xs) (k:c.lw c'):Sl R c' v xs:=by
 obtain ⟨a,cap,h1,h2,h3,h4⟩:=h;refine ⟨a,cap,h1,h2,h3,fun i x hx=>?_⟩;obtain ⟨b,off,l,e,hl,hc⟩:=h4 i x hx;exact ⟨b,off,l,e,R.mono k hl,fun j u hu=>(hc j u hu).lw k⟩
theorem Sl.mono {α:Type} {R:Rp α} {c c':Cx} {v:Value} {xs:List α} (h:Sl R c v xs) (k:c.le c'):Sl R c' v xs:=h.lw k.lw
theorem Sl.one {α:Type} {R:Rp α} {c:Cx} {v:Value} {xs:List α} (h:Sl R c v xs):v.oneCell'=true:=by
 obtain ⟨a,cap,rfl,_⟩:=h; rfl
theorem Sl.nil {α:Type} (R:Rp α) (c:Cx) (a:Option Addr) (cap:Nat) (h:cap≤maxLen):Sl R c (.slice a 0 cap) []:=
 ⟨a,cap,rfl,dw _,h,fun i x hx=>by simp at hx⟩
theorem Sl.nl {α:Type} (R:Rp α) (c:Cx):Sl R c (.slice none 0 0) []:=Sl.nil R c none 0 (dw _)
def RL {α:Type} (R:Rp α):Rp (List α) where
 size:=1
 cells:=fun c l xs=>∃v,l= [v]∧Sl R c v xs
 len:=fun ⟨v,h,_⟩=>by simp [h]
 one:=fun ⟨v,h,hs⟩ u hu=>by rw [h] at hu; simp at hu; subst hu; exact hs.one
 mono:=fun k ⟨v,h,hs⟩=>⟨v,h,hs.lw k⟩
def Pt (g:Nat) (c:Cx) (v:Value):Option Nat→Prop
 | none=>v= .pointer none
 | some k=>∃b,v= .pointer (some ⟨b,0,none⟩)∧c.t g k=some b
theorem Pt.lw {g:Nat} {c c':Cx} {v:Value} {p:Option Nat} (h:Pt g c v p) (k:c.lw c'):Pt g c' v p:=by
 cases p with
 | none=>exact h
 | some p=>obtain ⟨b,h1,h2⟩:=h; exact ⟨b,h1,k.t _ _ _ h2⟩
theorem Pt.mono {g:Nat} {c c':Cx} {v:Value} {p:Option Nat} (h:Pt g c v p) (k:c.le c'):Pt g c' v p:=h.lw k.lw
theorem Pt.get {g:Nat} {c:Cx} {v:Value} {p:Option Nat} {k:Nat} (h:Pt g c v p) (hp:p=some k):∃b,v= .pointer (some ⟨b,0,none⟩)∧c.t g k=some b:=by subst hp; exact h
inductive Er where
 | nil
 | sent (g:Nat)
 | fault (i:Int) (e:Er)
structure Fz (c:Cx) (b:Nat):Prop where
 lt:b < c.w.heap.size
 nA:∀o,¬c.A b o
 blk:∃vs T,c.w.heap[b]? = some (.cells vs T (0,0))
theorem Fz.lw {c c':Cx} {b:Nat} (h:Fz c b) (k:c.lw c'):Fz c' b:=by
 obtain ⟨vs,T,hb⟩:=h.blk;exact ⟨bJ h.lt k.size,fun o=>(k.cell b o h.lt (h.nA o)).2,vs,T,(k.block b _ _ _ hb h.nA).trans hb⟩
theorem Fz.mono {c c':Cx} {b:Nat} (h:Fz c b) (k:c.le c'):Fz c' b:=h.lw k.lw
def RE (S T:TypeId) (c:Cx):Value→Er→Prop
 | v,.nil=>v= .nilIface
 | v,.sent g=>∃a,v= .iface S (.pointer (some a))∧Im c g 0 v∧Fz c a.block
 | v,.fault i e=>∃b u,v= .iface T (.pointer (some ⟨b,0,none⟩))∧Im c b 0 (.int .i64 i)∧Im c b 1 u∧RE S T c u e
theorem RE.lw {S T:TypeId} {c c':Cx} {v:Value} {e:Er} (h:RE S T c v e) (k:c.lw c'):RE S T c' v e:=by
 induction e generalizing v with
 | nil=>exact h
 | sent g=>obtain ⟨b,h,hi,hf⟩:=h; exact ⟨b,h,hi.lw k,hf.lw k⟩
 | fault i e ih=>obtain ⟨b,u,h,h1,h2,h3⟩:=h; exact ⟨b,u,h,h1.lw k,h2.lw k,ih h3⟩
theorem RE.mono {S T:TypeId} {c c':Cx} {v:Value} {e:Er} (h:RE S T c v e) (k:c.le c'):RE S T c' v e:=h.lw k.lw
theorem RE.im {S T:TypeId} {c:Cx} {v:Value} {g:Nat} (h:RE S T c v (.sent g)):Im c g 0 v:=by
 obtain ⟨b,_,h,_⟩:=h; exact h
def Er.isNil:Er→Bool
 | .nil=>true
 | _=>false
def sb:Value→Nat
 | .slice (some a) _ _=>a.block
 | _=>0
def so:Value→Nat
 | .slice (some a) _ _=>a.off
 | _=>0
theorem Sl.at {α:Type} {R:Rp α} {c:Cx} {v:Value} {xs:List α} (h:Sl R c v xs) {i:Nat} {x:α} (hx:xs[i]? = some x):
  ∃l,R.cells c l x∧∀j u,l[j]? = some u→Im c (sb v) (so v+i * R.size+j) u:=by
 obtain ⟨a,cap,rfl,_,_,h4⟩:=h;obtain ⟨b,off,l,rfl,hl,hc⟩:=h4 i x hx;exact ⟨l,hl,hc⟩
def idx {α:Type} (xs:List α) (i:Int):Option α:=if 0≤i then xs[i.toNat]? else none
def slc {α:Type} (xs:List α) (i j:Int):Option (List α):=if 0≤i∧i≤j∧j≤xs.length then some ((xs.drop i.toNat).take (j - i).toNat) else none
def far:Nat:=1099511627776
def app {α:Type} (xs ys:List α):Option (List α):=if xs.length+ys.length≤far then some (xs++ys) else none
def lW {α:Type} (xs:List α) (i:Int) (x:α):Option (List α):=if 0≤i∧i < xs.length then some (xs.set i.toNat x) else none
theorem ba {α:Type} {xs:List α} {i:Int} {x:α} (h:idx xs i=some x):xs[i.toNat]? = some x:=by
 unfold idx at h;split at h
 ·exact h
 ·cases h
theorem mX {α:Type} {xs:List α} {i:Int} {x:α} (h:idx xs i=some x):0≤i∧i < xs.length:=by
 have:=ba h;unfold idx at h;split at h
 ·have:=(List.getElem?_eq_some_iff.1 this).1;omega
 ·cases h
structure En where
 v:Value
 T:TypeId
 vs:List Value
 lim:Nat
def blk:Value→Option Nat
 | .pointer (some a)=>some a.block
 | .slice (some a) _ _=>some a.block
 | _=>none
def En.on (e:En) (c:Cx):Prop:=∀b,blk e.v=some b→c.w.heap[b]? = some (.cells e.vs.toArray e.T (0,0))∧∀o,c.A b o↔e.lim≤o
def apart (e e':En):Prop:=∀b,blk e.v=some b→blk e'.v=some b→False
def lY:En:=⟨.nilIface,0,[],0⟩
abbrev Gm:=Nat→Nat→List En
def at_ (G:Gm) (F:List En):Nat ⊕ (Nat×Nat×Nat)→Option En
 | .inl k=>F[k]?
 | .inr (g,k,r)=>(G g k)[r]?
def jm {ι:Type} (c:Cx) (M:ι→Option En):Prop:=(∀i e,M i=some e→e.on c)∧∀i j e e',M i=some e→M j=some e'→i≠j→apart e e'
theorem En.on.lt {e:En} {c:Cx} {b:Nat} (h:e.on c) (hb:blk e.v=some b):b < c.w.heap.size:=(Array.getElem?_eq_some_iff.1 (h b hb).1).1
theorem En.on.keep {e:En} {c c':Cx} (h:e.on c) (k:∀b,blk e.v=some b→c'.w.heap[b]? = c.w.heap[b]?∧∀o,c'.A b o↔c.A b o):e.on c':=fun b hb=>
 ⟨(k b hb).1.trans (h b hb).1,fun o=>((k b hb).2 o).trans ((h b hb).2 o)⟩
theorem qR (c:Cx):lY.on c:=fun b hb=>by cases hb
theorem mZ (e:En):apart lY e:=fun b hb=>by cases hb
theorem nu (e:En):apart e lY:=fun b _ hb=>by cases hb
theorem jm.upd {ι:Type} {c c':Cx} {M M':ι→Option En} (h:jm c M) (i:ι) {D:Nat→Prop} (hb:c.but D c') (hD:∀b,D b→∃e,M i=some e∧blk e.v=some b) (hM:∀j,j≠i→M' j=M j)
  {e':En} (hi:M' i=some e') (hon:e'.on c') (hnew:∀b,blk e'.v=some b→(∃e,M i=some e∧blk e.v=some b)∨c.w.heap.size≤b):jm c' M':=by
 have key:∀j e,j≠i→M' j=some e→e.on c':=fun j e hj he=>by
  rw [hM j hj] at he;refine (h.1 j e he).keep fun b hbe=>hb.same b ((h.1 j e he).lt hbe) fun hd=>?_;obtain ⟨e2,h2,h3⟩:=hD b hd;exact h.2 j i e e2 he h2 hj b hbe h3
 have far:∀j e,j≠i→M' j=some e→apart e e':=fun j e hj he b h1 h2=>by
  rw [hM j hj] at he;rcases hnew b h2 with ⟨e2,h3,h4⟩ | h3
  ·exact h.2 j i e e2 he h3 hj b h1 h4
  ·exact absurd ((h.1 j e he).lt h1) (Nat.not_lt.2 h3)
 classical
 refine ⟨fun j e he=>?_,fun j k e e2 he he2 hjk=>?_⟩
 ·by_cases hj:j=i
  ·subst hj; rw [hi] at he; cases he; exact hon
  ·exact key j e hj he
 ·by_cases hj:j=i
  ·subst hj;rw [hi] at he; cases he;exact fun b h1 h2=>far k e2 (xj hjk) he2 b h2 h1
  ·by_cases hk:k=i
   ·subst hk; rw [hi] at he2; cases he2; exact far j e hj he
   ·rw [hM j hj] at he; rw [hM k hk] at he2; exact h.2 j k e e2 he he2 hjk
theorem jm.re {ι κ:Type} {c:Cx} {M:ι→Option En} {M':κ→Option En} (h:jm c M) (f:κ→ι) (hf:∀k e,M' k=some e→M (f k)=some e) (inj:∀k k' e e',M' k=some e→M' k'=some e'→f k=f k'→k=k'):jm c M':=
 ⟨fun k e he=>h.1 _ e (hf k e he),fun k k' e e' he he' hne=>h.2 _ _ e e' (hf k e he) (hf k' e' he') fun hh=>hne (inj k k' e e' he he' hh)⟩
structure Own (c:Cx) (G:Gm) (F:List En):Prop where
 m:jm c (at_ G F)
 t0:∀g k,G g k= []→c.t g k=none
section
variable {c c':Cx} {G:Gm} {F:List En}
theorem Own.on (O:Own c G F) (k:Nat) {e:En} (h:F[k]? = some e):e.on c:=O.m.1 (.inl k) e h
theorem Own.gon (O:Own c G F) {g k:Nat} {E:List En} (hE:G g k=E) (r:Nat) {e:En} (h:E[r]? = some e):e.on c:=O.m.1 (.inr (g,k,r)) e (by subst hE; exact h)
theorem Own.keep (O:Own c G F) (h:c.but (fun _=>False) c'):Own c' G F:=
 ⟨⟨fun i e he=>(O.m.1 i e he).keep fun b hb=>h.same b ((O.m.1 i e he).lt hb) id,O.m.2⟩,fun g k hk=>by rw [h.t]; exact O.t0 g k hk⟩
theorem Own.set (O:Own c G F) (k:Nat) {e e':En} {D:Nat→Prop} (hk:F[k]? = some e) (hb:c.but D c') (hD:∀b,D b→blk e.v=some b) (hon:e'.on c') (hnew:∀b,blk e'.v=some b→blk e.v=some b∨c.w.heap.size≤b):Own c' G (F.set k e'):=
 ⟨jm.upd O.m (.inl k) hb (fun b h=>⟨e,hk,hD b h⟩) (fun j hj=>by
  cases j with
  | inl j=>exact dN (fun e=>hj (by rw [e]))
  | inr j=>rfl) (e':=e') (dq (List.getElem?_eq_some_iff.1 hk).1) hon (fun b h=>(hnew b h).imp (fun h=>⟨e,hk,h⟩) id),fun g k hk=>by rw [hb.t]; exact O.t0 g k hk⟩
theorem Own.sel {F0:List En} {L:List En} (ix:List Nat) (O:Own c G (L++F0)) (hn:ix.Nodup) {L':List En} (hL:ix.map (fun i=>L[i]?)=L'.map some):Own c G (L'++F0):=by
 have hlen:ix.length=L'.length:=by have:=cP List.length hL; simpa using this
 have hget:∀(i:Nat) (hi:i < ix.length),L[ix[i]]? = some (L'[i]'(hlen▸ hi)):=fun i hi=>by
  have:=cP (fun l=>l[i]?) hL;simpa [aq hi,aq (hlen▸ hi:i < L'.length)] using this
 refine ⟨jm.re O.m (fun j=>match j with
  | .inl j=>if h:j < ix.length then .inl ix[j] else .inl (j - ix.length+L.length)
  | .inr j=> .inr j) ?_ ?_,O.t0⟩
 ·intro j e he
  cases j with
  | inr j=>exact he
  | inl j=>
   by_cases hj:j < ix.length
   ·simp only [hj,rJ];have h2:=hget j hj;have hlt:=(List.getElem?_eq_some_iff.1 h2).1;simp only [at_] at he⊢;rw [cL (hlen▸ hj),aq (hlen▸ hj)] at he;rw [cL hlt,h2,he]
   ·simp only [hj,rK,kb];simp only [at_] at he⊢;rw [dr (by omega)] at he;rw [dr (by omega),←he]
    congr 1
    omega
 ·intro j j' e e' he he' hh
  cases j with
  | inr j=>
   cases j' with
   | inr j'=>exact hh
   | inl j'=>by_cases hj:j' < ix.length <;> simp [hj] at hh
  | inl j=>
   cases j' with
   | inr j'=>by_cases hj:j < ix.length <;> simp [hj] at hh
   | inl j'=>
    by_cases hj:j < ix.length
    ·have h1:=(List.getElem?_eq_some_iff.1 (hget j hj)).1;by_cases hj':j' < ix.length
     ·simp only [hj,hj',rJ,kC] at hh;rw [(List.getElem_inj hn).1 hh]
     ·simp only [hj,hj',rJ,rK,kb,kC] at hh;omega
    ·by_cases hj':j' < ix.length
     ·have h1:=(List.getElem?_eq_some_iff.1 (hget j' hj')).1;simp only [hj,hj',rJ,rK,kb,kC] at hh;omega
     ·simp only [hj,hj',rK,kb,kC] at hh
      congr 1
      omega
theorem Own.cons (O:Own c G F) {e:En} {D:Nat→Prop} (hb:c.but D c') (hD:∀b,¬D b) (hon:e.on c') (hnew:∀b,blk e.v=some b→c.w.heap.size≤b):Own c' G (e :: F):=by
 have O1:jm c (at_ G (lY :: F)):=by
  refine ⟨fun i e he=>?_,fun i j e e' he he' hij=>?_⟩
  ·cases i with
   | inr i=>exact O.m.1 (.inr i) e he
   | inl i=>cases i with
    | zero=>cases he; exact qR c
    | succ i=>exact O.m.1 (.inl i) e he
  ·have pull:∀i,i≠ .inl 0→∀e,at_ G (lY :: F) i=some e→∃i',at_ G F i'=some e∧(match i' with | .inl k=>i= .inl (k+1) | .inr k=>i= .inr k):=fun i hi e he=>by
    cases i with
    | inr i=>exact ⟨.inr i,he,rfl⟩
    | inl i=>cases i with
     | zero=>exact absurd rfl hi
     | succ i=>exact ⟨.inl i,he,rfl⟩
   by_cases hi:i= .inl 0
   ·subst hi; cases he; exact mZ _
   ·by_cases hj:j= .inl 0
    ·subst hj; cases he'; exact nu _
    ·obtain ⟨i',h1,h2⟩:=pull i hi e he;obtain ⟨j',h3,h4⟩:=pull j hj e' he';refine O.m.2 i' j' e e' h1 h3 fun hh=>hij ?_;subst hh
     cases i' <;> simp_all
 exact ⟨jm.upd O1 (.inl 0) hb (fun b h=>absurd h (hD b)) (fun j hj=>by
  cases j with
  | inr j=>rfl
  | inl j=>cases j with
   | zero=>exact absurd rfl hj
   | succ j=>rfl) (e':=e) rfl hon (fun b h=> .inr (hnew b h)),fun g k hk=>by rw [hb.t]; exact O.t0 g k hk⟩
theorem Own.addHole (O:Own c G F) {e:En} (he:blk e.v=none):Own c G (e :: F):=
 O.cons (D:=fun _=>False) ⟨Cx.le.refl c,rfl,fun _ _ _=>⟨rfl,fun _=>gF⟩⟩ (fun _=>id) (fun b hb=>by rw [he] at hb; cases hb) (fun b hb=>by rw [he] at hb; cases hb)
def fK (G:Gm) (g k:Nat) (E:List En):Gm:=fun g' k'=>if g'=g∧k'=k then E else G g' k'
theorem cQ (G:Gm) (g k:Nat) (E:List En):fK G g k E g k=E:=by simp [fK]
theorem mx {c:Cx} {G:Gm} {g k:Nat} {E:List En} (h:∀g k,G g k= []→c.t g k=none) (hE:E= []→G g k= []):∀g' k',fK G g k E g' k'= []→c.t g' k'=none:=fun g' k' h'=>by
 simp only [fK] at h';split at h'
 ·rename_i hh
  obtain ⟨rfl,rfl⟩:=hh;exact h _ _ (hE h')
 ·exact h _ _ h'
theorem ot {α:Type} {E:List α} {r:Nat} {e:α} (h:E.set r e= []):E= []:=by
 have:=cP List.length h;rw [gE] at this;exact dO this
theorem fc {G:Gm} {g k g' k':Nat} {E:List En} (h:¬(g'=g∧k'=k)):fK G g k E g' k'=G g' k':=by simp only [fK,ag h]
theorem Own.setR (O:Own c G F) {g k:Nat} {E:List En} (r:Nat) {e e':En} {D:Nat→Prop} (hE:G g k=E) (hr:E[r]? = some e) (hb:c.but D c') (hD:∀b,D b→blk e.v=some b) (hon:e'.on c') (hnew:∀b,blk e'.v=some b→blk e.v=some b∨c.w.heap.size≤b):
  Own c' (fK G g k (E.set r e')) F:=by
 subst hE;refine ⟨jm.upd O.m (.inr (g,k,r)) hb (fun b h=>⟨e,hr,hD b h⟩) (fun j hj=>?_) (e':=e') ?_ hon (fun b h=>(hnew b h).imp (fun h=>⟨e,hr,h⟩) id),mx (fun g k hk=>by rw [hb.t]; exact O.t0 g k hk) ot⟩
 ·cases j with
  | inl j=>rfl
  | inr j=>
   obtain ⟨g',k',r'⟩:=j;by_cases h:g'=g∧k'=k
   ·obtain ⟨rfl,rfl⟩:=h;simp only [at_,cQ];exact dN (fun e=>hj (by rw [e]))
   ·simp only [at_,fc h]
 ·simp only [at_,cQ];exact dq (List.getElem?_eq_some_iff.1 hr).1
theorem Own.borrow (O:Own c G F) {g k:Nat} {E:List En} (r:Nat) {e:En} (hE:G g k=E) (hr:E[r]? = some e):Own c (fK G g k (E.set r lY)) (e :: F):=by
 subst hE;have hlt:=(List.getElem?_eq_some_iff.1 hr).1;have main:∀g' k' r' e1,at_ (fK G g k ((G g k).set r lY)) (e :: F) (.inr (g',k',r'))=some e1→(g',k',r')≠(g,k,r)→at_ G F (.inr (g',k',r'))=some e1:=fun g' k' r' e1 h1 hne=>by
  simp only [at_] at h1⊢;by_cases h:g'=g∧k'=k
  ·obtain ⟨rfl,rfl⟩:=h;rw [cQ,dN (fun e=>hne (by rw [e]))] at h1;exact h1
  ·rwa [fc h] at h1
 have hh:∀e1,at_ (fK G g k ((G g k).set r lY)) (e :: F) (.inr (g,k,r))=some e1→e1=lY:=fun e1 h1=>by
  simp only [at_,cQ] at h1;rw [dq hlt] at h1
  cases h1; rfl
 classical
 let f:Nat ⊕ (Nat×Nat×Nat)→Nat ⊕ (Nat×Nat×Nat):=fun j=>match j with
  | .inl 0=> .inr (g,k,r)
  | .inl (j+1)=> .inl j
  | .inr j=> .inr j
 have hf:∀j e1,j≠ .inr (g,k,r)→at_ (fK G g k ((G g k).set r lY)) (e :: F) j=some e1→at_ G F (f j)=some e1:=fun j e1 hj he=>by
  cases j with
  | inl j=>cases j with
   | zero=>cases he; exact hr
   | succ j=>exact he
  | inr j=>exact main j.1 j.2.1 j.2.2 e1 he (fun e=>hj (by rw [←e]))
 refine ⟨⟨fun j e1 he=>?_,fun j j' e1 e2 he he2 hne=>?_⟩,mx O.t0 ot⟩
 ·by_cases hj:j= .inr (g,k,r)
  ·subst hj; rw [hh e1 he]; exact qR c
  ·exact O.m.1 (f j) e1 (hf j e1 hj he)
 ·by_cases hj:j= .inr (g,k,r)
  ·subst hj; rw [hh e1 he]; exact mZ _
  ·by_cases hj':j'= .inr (g,k,r)
   ·subst hj'; rw [hh e2 he2]; exact nu _
   ·refine O.m.2 (f j) (f j') e1 e2 (hf j e1 hj he) (hf j' e2 hj' he2) fun hff=>?_
    cases j with
    | inl j=>cases j with
     | zero=>cases j' with
      | inl j'=>cases j' with
       | zero=>exact hne rfl
       | succ j'=>simp [f] at hff
      | inr j'=>exact hj' (by simpa [f] using hff.symm)
     | succ j=>cases j' with
      | inl j'=>cases j' with
       | zero=>simp [f] at hff
       | succ j'=>exact hne (by simpa [f] using hff)
      | inr j'=>simp [f] at hff
    | inr j=>cases j' with
     | inl j'=>cases j' with
      | zero=>exact hj (by simpa [f] using hff)
      | succ j'=>simp [f] at hff
     | inr j'=>exact hne (by simpa [f] using hff)
theorem Own.give {e:En} (O:Own c G (e :: F)) {g k:Nat} {E:List En} (r:Nat) {e0:En} (hE:G g k=E) (hr:E[r]? = some e0):Own c (fK G g k (E.set r e)) F:=by
 subst hE;have hlt:=(List.getElem?_eq_some_iff.1 hr).1
 classical
 let f:Nat ⊕ (Nat×Nat×Nat)→Nat ⊕ (Nat×Nat×Nat):=fun j=>match j with
  | .inl j=> .inl (j+1)
  | .inr j=>if j=(g,k,r) then .inl 0 else .inr j
 refine ⟨jm.re O.m f (fun j e1 he=>?_) (fun j j' e1 e2 he he2 hff=>?_),mx O.t0 ot⟩
 ·cases j with
  | inl j=>exact he
  | inr j=>
   obtain ⟨g',k',r'⟩:=j;by_cases h0:(g',k',r')=(g,k,r)
   ·simp only [Prod.mk.injEq] at h0;obtain ⟨rfl,rfl,rfl⟩:=h0;simp only [at_,cQ] at he;rw [dq hlt] at he;simp only [f,ai];exact he
   ·simp only [f,ag h0];simp only [at_] at he⊢;by_cases h:g'=g∧k'=k
    ·obtain ⟨rfl,rfl⟩:=h;rw [cQ,dN (fun e=>h0 (by rw [e]))] at he;exact he
    ·rwa [fc h] at he
 ·cases j with
  | inl j=>cases j' with
   | inl j'=>simpa [f] using hff
   | inr j'=>by_cases h:j'=(g,k,r) <;> simp [f,h] at hff
  | inr j=>cases j' with
   | inl j'=>by_cases h:j=(g,k,r) <;> simp [f,h] at hff
   | inr j'=>
    by_cases h:j=(g,k,r)
    ·by_cases h':j'=(g,k,r)
     ·rw [h,h']
     ·simp [f,h,h'] at hff
    ·by_cases h':j'=(g,k,r)
     ·simp [f,h,h'] at hff
     ·simpa [f,h,h'] using hff
theorem nN (G:Gm) (g k:Nat) (E E':List En):fK (fK G g k E) g k E'=fK G g k E':=by
 funext g' k'
 simp only [fK];split <;> rfl
theorem Own.giveB {e:En} {g k:Nat} {E:List En} (r:Nat) {e0:En} (O:Own c (fK G g k E) (e :: F)) (hr:E[r]? = some e0):Own c (fK G g k (E.set r e)) F:=by
 have:=Own.give O r (cQ G g k E) hr
 rwa [nN] at this
theorem jm.newObj {E:List En} (O:jm c (at_ G (E++F))) {g k:Nat} (hE:G g k= []):jm c (at_ (fK G g k E) F):=by
 classical
 let f:Nat ⊕ (Nat×Nat×Nat)→Nat ⊕ (Nat×Nat×Nat):=fun j=>match j with
  | .inl j=> .inl (j+E.length)
  | .inr j=>if j.1=g∧j.2.1=k then .inl j.2.2 else .inr j
 have hr:∀r e,at_ (fK G g k E) F (.inr (g,k,r))=some e→r < E.length:=fun r e he=>by
  simp only [at_,cQ] at he;exact (List.getElem?_eq_some_iff.1 he).1
 refine jm.re O f (fun j e1 he=>?_) (fun j j' e1 e2 he he2 hff=>?_)
 ·cases j with
  | inl j=>
   simp only [f,at_] at he⊢;rw [dr (by omega)];rw [←he]; congr 1; omega
  | inr j=>
   obtain ⟨g',k',r'⟩:=j;by_cases h:g'=g∧k'=k
   ·simp only [f,ai h];obtain ⟨rfl,rfl⟩:=h;have:=hr _ _ he;simp only [at_,cQ] at he⊢;rw [cL this]; exact he
   ·simp only [f,ag h];simp only [at_,fc h] at he⊢;exact he
 ·cases j with
  | inl j=>cases j' with
   | inl j'=>simpa [f] using hff
   | inr j'=>
    obtain ⟨g',k',r'⟩:=j';by_cases h:g'=g∧k'=k
    ·obtain ⟨rfl,rfl⟩:=h;have:=hr _ _ he2;simp [f] at hff;omega
    ·simp [f,h] at hff
  | inr j=>
   obtain ⟨g1,k1,r1⟩:=j
   cases j' with
   | inl j'=>
    by_cases h:g1=g∧k1=k
    ·obtain ⟨rfl,rfl⟩:=h;have:=hr _ _ he;simp [f] at hff;omega
    ·simp [f,h] at hff
   | inr j'=>
    obtain ⟨g',k',r'⟩:=j';by_cases h:g1=g∧k1=k
    ·by_cases h':g'=g∧k'=k
     ·simp only [f,ai h,ai h',kC] at hff;obtain ⟨rfl,rfl⟩:=h;obtain ⟨rfl,rfl⟩:=h';rw [hff]
     ·simp [f,h,h'] at hff
    ·by_cases h':g'=g∧k'=k
     ·simp [f,h,h'] at hff
     ·simpa [f,h,h'] using hff
theorem Own.newObj {E:List En} (O:Own c G (E++F)) {g k b:Nat} (hE:G g k= []) (hne:E≠ []):∃c',(c'.w=c.w∧c'.A=c.A)∧c.le c'∧c'.t g k=some b∧Own c' (fK G g k E) F:=by
 have ht:∀g' k' b',c.t g' k'=some b'→¬(g'=g∧k'=k):=fun g' k' b' h hh=>by
  obtain ⟨rfl,rfl⟩:=hh;rw [O.t0 _ _ hE] at h;cases h
 refine ⟨⟨c.w,c.A,fun g' k'=>if g'=g∧k'=k then some b else c.t g' k'⟩,⟨rfl,rfl⟩,⟨rfl,rfl,aB _,fun _ _ _ h=>⟨rfl,h⟩,fun _ _ _=>rfl,fun _ _ _=>rfl,fun g' k' b' h=>?_⟩,by simp,⟨jm.newObj O.m hE,fun g' k' h=>?_⟩⟩
 ·simp only [ag (ht g' k' b' h)];exact h
 ·simp only [fK] at h⊢;split at h
  ·exact absurd h hne
  ·rename_i hh
   simp only [ag hh];exact O.t0 _ _ h
structure Rl {α:Type} (Y:Cx→Option Nat→List En→α→Prop) (g:Nat) (c:Cx) (G:Gm) (xs:List α):Prop where
 ob:∀k x,xs[k]? = some x→Y c (c.t g k) (G g k) x
 no:∀k,xs.length≤k→G g k= []
variable {α:Type} {Y:Cx→Option Nat→List En→α→Prop} {g:Nat} {xs:List α}
theorem Rl.mono (h:Rl Y g c G xs) (hm:∀b E x,Y c (some b) E x→Y c' (some b) E x) (hs:∀E x,¬Y c none E x) (hk:c.lw c'):Rl Y g c' G xs:=
 ⟨fun k x hx=>by
  have:=h.ob k x hx
  cases hb:c.t g k with
  | none=>rw [hb] at this; exact absurd this (hs _ _)
  | some b=>rw [hb] at this; rw [hk.t g k b hb]; exact hm b _ _ this,h.no⟩
theorem Rl.set (h:Rl Y g c G xs) {k:Nat} {E:List En} {x:α} (hk:k < xs.length) (hY:Y c (c.t g k) E x):Rl Y g c (fK G g k E) (xs.set k x):=
 ⟨fun j y hy=>by
  by_cases hj:j=k
  ·subst hj;rw [dq hk] at hy;cases hy;rw [cQ]; exact hY
  ·rw [dN (xj hj)] at hy;rw [fc (fun e=>hj e.2)];exact h.ob j y hy,fun j hj=>by
  rw [gE] at hj;rw [fc (fun e=>by omega)];exact h.no j hj⟩
theorem Rl.other (h:Rl Y g c G xs) {g' k:Nat} {E:List En} (hne:g≠g'):Rl Y g c (fK G g' k E) xs:=
 ⟨fun j y hy=>by rw [fc (fun e=>hne e.1)]; exact h.ob j y hy,fun j hj=>by rw [fc (fun e=>hne e.1)]; exact h.no j hj⟩
theorem Rl.new (h:Rl Y g c G xs) {E:List En} {x:α} (hY:Y c (c.t g xs.length) E x):Rl Y g c (fK G g xs.length E) (xs++ [x]):=
 ⟨fun j y hy=>by
  by_cases hj:j=xs.length
  ·subst hj;rw [dr (aB _)] at hy;simp at hy;subst hy;rw [cQ]; exact hY
  ·have hlt:j < xs.length:=by
    have:=(List.getElem?_eq_some_iff.1 hy).1;rw [ac] at this;simp at this;omega
   rw [cL hlt] at hy;rw [fc (fun e=>hj e.2)];exact h.ob j y hy,fun j hj=>by
  rw [ac] at hj;simp at hj;rw [fc (fun e=>by omega)];exact h.no j (by omega)⟩
end
end Go.Lt
namespace Go.Lt
def aX (c:Cx) (X:Cx→Value→Prop):Ending→World→Prop:=fun x w=>∃v c',x= .returned v∧w=c'.w∧c.le c'∧X c' v
def Kp (G:Gm) (N:List En) (c:Cx):Prop:=∀i e,at_ G N i=some e→e.on c
theorem Kp.nil {c:Cx} {G:Gm} {F:List En} (O:Own c G F):Kp G [] c:=fun i e h=>by
 cases i with
 | inl i=>simp [at_] at h
 | inr i=>exact O.m.1 (.inr i) e h
def G0:Gm:=fun _ _=>[]
theorem Kp.nil0 {c:Cx}:Kp G0 [] c:=fun i e h=>by
 cases i <;> simp [at_,G0] at h
theorem Kp.cons {c:Cx} {G:Gm} {N:List En} {e:En} (h:e.on c) (k:Kp G N c):Kp G (e :: N) c:=fun i e' h'=>by
 cases i with
 | inl i=>cases i with
  | zero=>cases h'; exact h
  | succ i=>exact k (.inl i) e' h'
 | inr i=>exact k (.inr i) e' h'
theorem Kp.on {c:Cx} {G:Gm} {N:List En} (h:Kp G N c) (k:Nat) {e:En} (hk:N[k]? = some e):e.on c:=h (.inl k) e hk
theorem Kp.gon {c:Cx} {G:Gm} {N:List En} (h:Kp G N c) {g k:Nat} {E:List En} (hE:G g k=E) (r:Nat) {e:En} (hr:E[r]? = some e):e.on c:=h (.inr (g,k,r)) e (by subst hE; exact hr)
def vI (ops:Array Oper) (li:List Bool) (i:Nat) (B:List Nat):List Nat:=
 (List.range ops.size).filter fun j=> !li.getD j true && !(j==i) && (ops[j]?).any fun o=>o.after.any fun x=>Region.binds .any x && ((x.on==i && !li.getD i true) || B.contains x.on)
def rO (ops:Array Oper) (li:List Bool) (i:Nat):Nat→List Nat
 | 0=>[]
 | n+1=>vI ops li i (rO ops li i n)
def okB (ops:Array Oper) (li:List Bool) (i:Nat) (D:List Nat):Bool:=
 let B:=rO ops li i ops.size
 B.all (fun j=> !li.getD j true && !(j==i) && (ops[j]?).any fun o=>o.after.any fun x=>Region.binds .any x && (x.on==i || B.contains x.on)) && D.all fun j=>li.getD j true || B.contains j
section
variable {P:Program} {ops:Array Oper} {n:Fr} {r:Option Nat} {Q:Exit→(Nat→Value)→World→Prop} {D:List Nat} {K:Cx→Prop}
def ka (r:Option Nat) (D:List Nat) (K:Cx→Prop) (P:Program) (ops:Array Oper) (Q:Exit→Act→World→Prop):Nat→Array Bool→Act→Cx→Prop
 | 0,listed,a,c=>Region.ready .any ops listed= []∧Q .normal a c.w
 | fuel+1,listed,a,c=>(Region.ready .any ops listed= []→Q .normal a c.w)∧
  ∀i∈Region.ready .any ops listed,wpOpIn (fen r) 0 P ops Q i (fun a' w=>∃c',w=c'.w∧c.le c'∧(i∈D∨(K c→K c'))∧ka r D K P ops Q fuel (listed.setIfInBounds i true) a' c') a c.w
theorem ka.sound {Q:Exit→Act→World→Prop}:∀(fuel:Nat) (listed:Array Bool) (a:Act) (c:Cx),ka r D K P ops Q fuel listed a c→wpAnyIn (fen r) 0 P .any ops Q fuel listed a c.w
 | 0,_,_,_,h=>h
 | _+1,_,_,_,h=>⟨h.1,fun i hi=>wpOpIn_mono (fun a w ⟨c',hw,_,_,h'⟩=>by subst hw; exact ka.sound _ _ _ _ h') (h.2 i hi)⟩
def Yl (Z:Cx→Prop) (P:Program) (ops:Array Oper) (o:Oper) (v:Value) (a:Act) (c:Cx):Prop:=
 (Region.wanted o (yielded ops a.tmps)=true∧∀c',c.le c'→Z c'→(execOp a.eval o).run P c'.w= .ok (.value v) c'.w)∨
 (Region.wanted o (yielded ops a.tmps)=false∧v=undef)
theorem rh (o:Oper) (hs:∀cs b,o.op≠ .select cs b) (a:Act) (dst:Option Tmp) (v:Value) (h:∀d,dst=some d→d∉o.looksAt ops):
  o.semAt r (a.put dst v).eval=o.semAt r a.eval:=by
 by_cases hd:∀c,o.op≠ .defer c
 ·rw [ur _ _ _ hd,ur _ _ _ hd];exact wQ o hs a dst v h
 ·obtain ⟨c,hc⟩:=Classical.not_forall.1 hd;have hc:=Classical.not_not.1 hc;have he:resolve (a.put dst v).eval c o.type=resolve a.eval c o.type:=resolve_congr c o.type fun x hx=>Act.eval_put fun d hd hxd=>h d hd (by
   subst hxd;exact dc _ (List.mem_filterMap.2 ⟨.tmp d,by rw [hc]; simpa [Op.operands] using hx,rfl⟩))
  cases r with
  | none=>exact wQ o hs a dst v h
  | some l=>
   unfold Oper.semAt;rw [hc];simp only [he]
theorem Yl.wpOp {Z:Cx→Prop} {i:Nat} {o:Oper} {v:Value} {a:Act} {c:Cx} (hz:Z c) (hi:ops[i]? = some o) (hy:Yl Z P ops o v a c) {Q:Exit→Act→World→Prop} {K:Act→World→Prop}
  (h:K (a.put o.dst v) c.w):wpOpIn (fen r) 0 P ops Q i K a c.w:=by
 unfold Go.wpOpIn;simp only [hi];rcases hy with ⟨hw,hv⟩ | ⟨hw,rfl⟩
 ·rw [ai hw];refine ⟨fun _ _=>trivial,?_⟩;rw [kI (hv c (Cx.le.refl c) hz) (by simp),xi];exact h
 ·rw [ag (by rw [hw]; simp)];exact ⟨fun _ _=>trivial,h⟩
def Wt (ops:Array Oper) (listed:Array Bool) (i:Nat) (B:List Nat):Prop:=
 ∀j∈B,listed.getD j true=false∧j≠i∧∃oj,ops[j]? = some oj∧∃x∈oj.after,Region.binds .any x=true∧(x.on=i∨x.on∈B)
theorem nZ (l:List Bool) (j:Nat):l.toArray.getD j true=l.getD j true:=by simp [co,jL]
theorem sk {l:List Oper} {li:List Bool} {i:Nat} {D:List Nat} (h:okB l.toArray li i D=true):∃B,Wt l.toArray li.toArray i B∧∀j∈D,li.toArray.getD j true=true∨j∈B:=by
 refine ⟨rO l.toArray li i l.toArray.size,fun j hj=>?_,fun j hj=>?_⟩
 ·simp only [okB,ax,lq] at h;have:=h.1 j hj;simp only [pS,bc,ne_eq] at this;obtain ⟨⟨h1,h2⟩,h3⟩:=this;refine ⟨by rw [nZ]; exact h1,h2,?_⟩
  cases ho:l.toArray[j]? with
  | none=>rw [ho] at h3; cases h3
  | some oj=>
   rw [ho] at h3;simp only [Option.any_some,Array.any_eq_true',ax,bh,bd,vG] at h3;obtain ⟨x,hx,hb,hon⟩:=h3;exact ⟨oj,rfl,x,hx,hb,hon⟩
 ·simp only [okB,ax,lq] at h;have:=h.2 j hj;simp only [bh,vG] at this;rw [nZ];exact this
theorem ka.first {Q:Exit→Act→World→Prop} (hP:∀ch a w,¬Q (.panic ch) a w) (hO:∀a w,¬Q .outgrown a w) {i:Nat} {oi:Oper} {v:Value} (hi:ops[i]? = some oi)
  (hsel:∀(j:Nat) (o:Oper) cs b,ops[j]? = some o→o.op≠ .select cs b) {Z:Cx→Prop} {B:List Nat} (hZ:(∀c,Z c)∨Z=K):
  ∀(fuel:Nat) (listed:Array Bool) (a:Act) (c:Cx),
   (∀j oj,ops[j]? = some oj→j≠i→listed.getD j true=false→(∀x∈oj.after,Region.binds .any x=true→x.on≠i)→oi.apart ops oj=true)→
   Wt ops listed i B→((∀c,Z c)∨∀j∈D,listed.getD j true=true∨j∈B)→Z c→
   i∈Region.ready .any ops listed→Yl Z P ops oi v a c→
   ka r D K P ops Q fuel (listed.setIfInBounds i true) (a.put oi.dst v) c→ka r D K P ops Q (fuel+1) listed a c:=by
 have notB:∀(listed:Array Bool) j,Wt ops listed i B→i∈Region.ready .any ops listed→j∈Region.ready .any ops listed→j∉B:=fun listed j hW hr hj hB=>by
  obtain ⟨_,_,oj,hoj,x,hx,hb,hon⟩:=hW j hB;obtain ⟨_,oj',hoj',hall⟩:=mem_ready.1 hj;rw [hoj] at hoj';cases hoj';have h1:=hall x hx hb;have h0:listed.getD x.on true=false:=by
   rcases hon with h | h
   ·rw [h]; exact (mem_ready.1 hr).1
   ·exact (hW _ h).1
  rcases aG x.on listed.size with h' | h'
  ·simp [h'] at h0 h1; rw [h0] at h1; cases h1
  ·simp [bH h'] at h1
 intro fuel
 induction fuel with
 | zero=>
  intro listed a c _ hW hD hz hr hy H;refine ⟨fun h=>(by rw [h] at hr; cases hr),fun j hj=>?_⟩;by_cases hji:j=i
  ·subst hji; exact hy.wpOp hz hi ⟨c,rfl,Cx.le.refl c,.inr id,H⟩
  ·have:=wJ hj hji;rw [H.1] at this;cases this
 | succ fuel ih=>
  intro listed a c hfree hW hD hz hr hy H;refine ⟨fun h=>(by rw [h] at hr; cases hr),fun j hj=>?_⟩;by_cases hji:j=i
  ·subst hji; exact hy.wpOp hz hi ⟨c,rfl,Cx.le.refl c,.inr id,H⟩
  ·have h1:=H.2 j (wJ hj hji);obtain ⟨hjun,oj,hoj,hall⟩:=mem_ready.1 hj;have hnot:∀x∈oj.after,Region.binds .any x=true→x.on≠i:=fun x hx hb heq=>by
    have h1:=hall x hx hb;have h0:=(mem_ready.1 hr).1;rw [heq] at h1;rcases aG i listed.size with h' | h'
    ·simp [h'] at h0 h1; rw [h0] at h1; cases h1
    ·simp [bH h'] at h1
   obtain ⟨ha1,ha2,ha3⟩:=Oper.apart_spec (hfree j oj hoj hji hjun hnot);have hfree':∀k ok,ops[k]? = some ok→k≠i→(listed.setIfInBounds j true).getD k true=false→
     (∀x∈ok.after,Region.binds .any x=true→x.on≠i)→oi.apart ops ok=true:=fun k ok hk hki hun hno=>by
    refine hfree k ok hk hki ?_ hno;by_cases hjk:j=k
    ·subst hjk; exact hjun
    ·rw [wg true hjk] at hun; exact hun
   have hW':Wt ops (listed.setIfInBounds j true) i B:=fun k hk=>by
    obtain ⟨h1,h2⟩:=hW k hk;refine ⟨?_,h2⟩;have hjk:j≠k:=fun e=>by subst e; exact notB listed j hW hr hj hk
    rw [wg true hjk];exact h1
   have hD':(∀c,Z c)∨∀k∈D,(listed.setIfInBounds j true).getD k true=true∨k∈B:=hD.imp id fun h k hk=>by
    rcases h k hk with h | h
    ·by_cases hjk:j=k
     ·subst hjk; rw [hjun] at h; cases h
     ·exact .inl (by rw [wg true hjk]; exact h)
    ·exact .inr h
   have keep:∀(b:Act),b.tmps=a.tmps→∀(u:Value) (c':Cx),c.le c'→Yl Z P ops oi v (b.put oj.dst u) c':=fun b hb u c' hc=>by
    have hbe:b.eval=a.eval:=by funext x; cases x <;> simp [Act.eval,hb]
    have he:execOp (b.put oj.dst u).eval oi=execOp a.eval oi:=hbe▸ wQ oi (fun cs b=>hsel i oi cs b hi) _ _ _ ha3;have hw:Region.wanted oi (yielded ops (b.put oj.dst u).tmps)=Region.wanted oi (yielded ops a.tmps):=hb▸ wanted_put oi _ _ _ ha3;unfold Yl at hy⊢;rw [he,hw];exact hy.imp (fun ⟨h1,h2⟩=>⟨h1,fun c'' h hz=>h2 c'' (hc.trans h) hz⟩) id
   have fin:∀(b:Act),b.tmps=a.tmps→∀(u:Value) (w:World),(∃c',w=c'.w∧c.le c'∧(j∈D∨(K c→K c'))∧ka r D K P ops Q fuel ((listed.setIfInBounds i true).setIfInBounds j true) ((b.put oi.dst v).put oj.dst u) c')→
     ∃c',w=c'.w∧c.le c'∧(j∈D∨(K c→K c'))∧ka r D K P ops Q (fuel+1) (listed.setIfInBounds j true) (b.put oj.dst u) c':=by
    rintro b hb u w ⟨c',rfl,hle,hk,h⟩;have hz':Z c':=by
     rcases hZ with h | h
     ·exact h c'
     ·rcases hD with h2 | h2
      ·exact h2 c'
      ·rcases hk with h3 | h3
       ·rcases h2 j h3 with h4 | h4
        ·rw [hjun] at h4; cases h4
        ·exact absurd h4 (notB listed j hW hr hj)
       ·subst h; exact h3 hz
    refine ⟨c',rfl,hle,hk,ih _ _ _ hfree' hW' hD' hz' (wJ hr (xj hji)) (keep b hb u c' hle) ?_⟩;rw [Array.setIfInBounds_comm _ _ hji,←Act.put_comm b v u ha2];exact h
   have he:oj.semAt r (a.put oi.dst v).eval=oj.semAt r a.eval:=rh oj (fun cs b=>hsel j oj cs b hoj) _ _ _ ha1;have hw:Region.wanted oj (yielded ops (a.put oi.dst v).tmps)=Region.wanted oj (yielded ops a.tmps):=wanted_put oj _ _ _ ha1;unfold Go.wpOpIn at h1⊢;simp only [hoj] at h1⊢;rw [hw] at h1;split
   ·rename_i hww
    rw [ai hww] at h1;refine ⟨fun _ _=>trivial,?_⟩;have h1:=h1.2;have hro:(fen r).round=r:=rfl;rw [hro,he] at h1;rw [hro];generalize (oj.semAt r a.eval).run P c.w=res at h1⊢
    cases res with
    | ok x w'=>
     cases x <;> simp only [Oper.uponIn] at h1⊢
     case value u=>exact fin a rfl _ _ h1
     case skip=>exact fin a rfl _ _ h1
     case defer d=>rw [Act.put_defers] at h1; exact fin { a with defers:=_ :: a.defers} rfl _ _ h1
     case enter f args=>
      refine ⟨h1.1,h1.2.mono fun x w'' hx=>?_⟩
      cases x with
      | returned u=>exact fin a rfl _ _ hx
      | panicked ch=>exact absurd hx (hP _ _ _)
      | outgrown=>obtain ⟨a1,w1,h3⟩:=hx; exact absurd h3 (hO _ _)
     case row row args=>exact ⟨h1.1,h1.2.mono fun u w'' hv=>fin a rfl _ _ hv⟩
     case round l f tmps assign body=>
      refine ⟨h1.1,h1.2.mono fun x w'' hx=>?_⟩
      cases x with
      | returned u=>exact fin a rfl _ _ hx
      | panicked ch=>exact absurd hx (hP _ _ _)
      | outgrown=>obtain ⟨a1,w1,h3⟩:=hx; exact absurd h3 (hO _ _)
    | halt x w'=>
     cases x <;> simp only [Oper.uponIn] at h1⊢
     case panic u=>exact absurd h1 (hP _ _ _)
   ·rename_i hww
    rw [ag hww] at h1;exact ⟨fun _ _=>trivial,fin a rfl _ _ h1.2⟩
def AC (D:List Nat) (K:Cx→Prop) (P:Program) (l:List Oper) (n:Fr) (Q:Exit→(Nat→Value)→World→Prop) (fuel:Nat) (li:List Bool) (e:Nat→Value) (c:Cx):Prop:=
 ka n.ro D K P l.toArray (pl n Q) fuel li.toArray (act n e) c
theorem Cx.drew_le (c:Cx):c.but (fun _=>False) ⟨c.w.drew,c.A,c.t⟩:=⟨⟨rfl,rfl,aB _,fun _ _ _ h=>⟨rfl,h⟩,fun _ _ _=>rfl,fun _ _ _=>rfl,fun _ _ _ h=>h⟩,rfl,fun _ _ _=>⟨rfl,fun _=>gF⟩⟩
theorem W.regionD (D:List Nat) (K:Cx→Prop) {id:Nat} {l:List Oper} {e:Nat→Value} {c:Cx} {G:Gm} {F:List En} (O:Own c G F) (hm:P.follows .mixedOrders=true)
  (h:∀c',c.le c'→Own c' G F→AC D K P l n Q l.length (List.replicate l.length false) e c'):W P n (.region id l.toArray true) Q e c.w:=
 wpIn_region_any hm (by
  have:=ka.sound _ _ _ _ (h _ (Cx.drew_le c).le (O.keep (Cx.drew_le c)));rw [show (List.replicate l.length false).toArray=Array.replicate l.toArray.size false by simp] at this;exact this)
variable {l:List Oper} {fuel:Nat} {li:List Bool} {e:Nat→Value} {c:Cx} {o:Oper}
theorem AC.take0 {Z:Cx→Prop} {B:List Nat} (hZ:(∀c,Z c)∨Z=K) {i:Nat} {v:Value} (hi:l.toArray[i]? = some o) (hs:Region.noSelect l.toArray=true) (hf:Region.free .any l.toArray li.toArray i=true)
  (hr:(Region.ready .any l.toArray li.toArray).contains i=true) (hB:Wt l.toArray li.toArray i B) (hD:(∀c,Z c)∨∀j∈D,li.toArray.getD j true=true∨j∈B) (hz:Z c) (hy:Yl Z P l.toArray o v (act n e) c)
  (h:AC D K P l n Q fuel (li.set i true) (upO e o.dst v) c):AC D K P l n Q (fuel+1) li e c:=by
 refine ka.first (fun ch a w h=>h.1) (fun a w h=>h.1) hi (Region.noSelect_spec hs) hZ fuel _ _ c (Region.free_spec hi hf) hB hD hz (by simpa using hr) hy ?_;rw [lm];simpa [AC] using h
def tk (l:List Oper) (n:Nat) (li:List Bool) (i:Nat):Bool:=
 Region.noSelect l.toArray && Region.free .any l.toArray li.toArray i && (Region.ready .any l.toArray li.toArray).contains i && cU n l
theorem AC.take (i:Nat) (v:Value) (hi:l.toArray[i]? = some o) (ht:tk l n li i=true) (hw:ec l.toArray n e o=true)
  (hy:∀c',c.le c'→(execOp (ev n e) o).run P c'.w= .ok (.value v) c'.w) (h:AC D K P l n Q fuel (li.set i true) (upO e o.dst v) c):AC D K P l n Q (fuel+1) li e c:=by
 simp only [tk,ax] at ht;exact AC.take0 (Z:=fun _=>True) (B:=[]) (.inl fun _=>trivial) hi ht.1.1.1 ht.1.1.2 ht.1.2 (fun j hj=>by simp at hj) (.inl fun _=>trivial) trivial (.inl ⟨by rw [iI _ _ _ _ (fu ht.2)]; exact hw,by rw [il]; exact fun c' hc _=>hy c' hc⟩) h
theorem AC.takeb (i:Nat) {t b:Bool} (htb:t=b) (hi:l.toArray[i]? = some o) (ht:tk l n li i=true) (hw:ec l.toArray n e o=true)
  (hy:∀c',c.le c'→(execOp (ev n e) o).run P c'.w= .ok (.value (.bool t)) c'.w) (h:AC D K P l n Q fuel (li.set i true) (upO e o.dst (.bool b)) c):AC D K P l n Q (fuel+1) li e c:=by
 subst htb;exact AC.take i _ hi ht hw hy h
theorem AC.takeK (i:Nat) (v:Value) (hk:K c) (hi:l.toArray[i]? = some o) (ht:tk l n li i=true) (hB:okB l.toArray li i D=true) (hw:ec l.toArray n e o=true)
  (hy:∀c',c.le c'→K c'→(execOp (ev n e) o).run P c'.w= .ok (.value v) c'.w) (h:AC D K P l n Q fuel (li.set i true) (upO e o.dst v) c):AC D K P l n Q (fuel+1) li e c:=by
 simp only [tk,ax] at ht;obtain ⟨B,h1,h2⟩:=sk hB;exact AC.take0 (Z:=K) (B:=B) (.inr rfl) hi ht.1.1.1 ht.1.1.2 ht.1.2 h1 (.inr h2) hk (.inl ⟨by rw [iI _ _ _ _ (fu ht.2)]; exact hw,by rw [il]; exact hy⟩) h
theorem AC.pass (i:Nat) (hi:l.toArray[i]? = some o) (ht:tk l n li i=true) (hw:ec l.toArray n e o=false)
  (h:AC D K P l n Q fuel (li.set i true) (upO e o.dst undef) c):AC D K P l n Q (fuel+1) li e c:=by
 simp only [tk,ax] at ht;exact AC.take0 (Z:=fun _=>True) (B:=[]) (.inl fun _=>trivial) hi ht.1.1.1 ht.1.1.2 ht.1.2 (fun j hj=>by simp at hj) (.inl fun _=>trivial) trivial (.inr ⟨by rw [iI _ _ _ _ (fu ht.2)]; exact hw,rfl⟩) h
def Go1 (D:List Nat) (K:Cx→Prop) (P:Program) (l:List Oper) (n:Fr) (Q:Exit→(Nat→Value)→World→Prop) (fuel:Nat) (li:List Bool) (e:Nat→Value) (c:Cx) (i:Nat):Prop:=
 wpOpIn (fen n.ro) 0 P l.toArray (pl n Q) i (fun a' w=>∃c',w=c'.w∧c.le c'∧(i∈D∨(K c→K c'))∧ka n.ro D K P l.toArray (pl n Q) fuel (li.toArray.setIfInBounds i true) a' c') (act n e) c.w
def uq (p:Nat→Prop):List Nat→Prop
 | []=>True
 | i :: l=>p i∧uq p l
theorem uq.mem {p:Nat→Prop}:∀{l:List Nat},uq p l→∀i∈l,p i
 | [],_,i,hi=>by cases hi
 | a :: l,h,i,hi=>by
  rcases List.mem_cons.1 hi with rfl | hi
  ·exact h.1
  ·exact h.2.mem i hi
theorem AC.many (is:List Nat) (hne:is≠ []) (hr:Region.ready .any l.toArray li.toArray=is) (h:uq (Go1 D K P l n Q fuel li e c) is):AC D K P l n Q (fuel+1) li e c:=
 ⟨fun h0=>(by rw [hr] at h0; exact absurd h0 hne),fun j hj=>h.mem j (hr▸ hj)⟩
theorem Go1.mk {i:Nat} (hi:l.toArray[i]? = some o) (hsl:cU n l=true) (hw:ec l.toArray n e o=true)
  (h:o.wpIn (fen n.ro) 0 P (act n e) c.w (fun a w=>∃e' c',a=act n e'∧w=c'.w∧c.le c'∧(i∈D∨(K c→K c'))∧AC D K P l n Q fuel (li.set i true) e' c') (pl n Q)):Go1 D K P l n Q fuel li e c i:=by
 unfold Go1 wpOpIn;simp only [hi];rw [ai (by rw [iI _ _ _ _ (fu hsl)]; exact hw)];refine Oper.wpIn_mono ?_ h;rintro a w ⟨e',c',rfl,rfl,hle,hk,h'⟩;exact ⟨c',rfl,hle,hk,by simpa [AC] using h'⟩
theorem Go1.val {i:Nat} {v:Value} {c':Cx} (hi:l.toArray[i]? = some o) (hsl:cU n l=true) (hw:ec l.toArray n e o=true)
  (hrun:(execOp (ev n e) o).run P c.w= .ok (.value v) c'.w) (hle:c.le c') (hk:D.contains i=true∨K c') (h:AC D K P l n Q fuel (li.set i true) (upO e o.dst v) c'):Go1 D K P l n Q fuel li e c i:=
 Go1.mk hi hsl hw (sf hrun ⟨_,c',rfl,rfl,hle,hk.imp (by simp) fun h _=>h,h⟩)
theorem Go1.do_ {i:Nat} {c':Cx} (hi:l.toArray[i]? = some o) (hsl:cU n l=true) (hw:ec l.toArray n e o=true)
  (hrun:(execOp (ev n e) o).run P c.w= .ok .skip c'.w) (hle:c.le c') (hk:D.contains i=true∨K c') (h:AC D K P l n Q fuel (li.set i true) (upO e o.dst undef) c'):Go1 D K P l n Q fuel li e c i:=
 Go1.mk hi hsl hw (uw hrun ⟨_,c',rfl,rfl,hle,hk.imp (by simp) fun h _=>h,h⟩)
theorem Go1.call {i:Nat} {f:FuncId} {args:Array Value} {X:Cx→Value→Prop} (hi:l.toArray[i]? = some o) (hsl:cU n l=true) (hw:ec l.toArray n e o=true)
  (hrun:(execOp (ev n e) o).run P c.w= .ok (.enter f args) c.w) (hc:Calls P f args c.w (aX c X))
  (h:∀v c',c.le c'→X c' v→(D.contains i=true∨K c')∧AC D K P l n Q fuel (li.set i true) (upO e o.dst v) c'):Go1 D K P l n Q fuel li e c i:=
 Go1.mk hi hsl hw (qE hrun (hc.mono fun x w=>by
  rintro ⟨v,c',rfl,rfl,hx,hX⟩;have:=h v c' hx hX;exact ⟨v,rfl,_,c',rfl,rfl,hx,this.1.imp (by simp) fun h _=>h,this.2⟩))
theorem AC.done (hr:Region.ready .any l.toArray li.toArray= []) (h:Q .normal e c.w):AC D K P l n Q fuel li e c:=by
 cases fuel with
 | zero=>exact ⟨hr,trivial,e,rfl,h⟩
 | succ k=>exact ⟨fun _=>⟨trivial,e,rfl,h⟩,by rw [hr]; simp⟩
theorem AC.gh {c':Cx} (hw:c'.w=c.w) (hA:c.le c') (hk:K c→K c') (h:AC D K P l n Q fuel li e c'):AC D K P l n Q fuel li e c:=by
 have key:∀(fuel:Nat) (listed:Array Bool) (a:Act),ka n.ro D K P l.toArray (pl n Q) fuel listed a c'→ka n.ro D K P l.toArray (pl n Q) fuel listed a c:=fun fuel listed a h=>by
  cases fuel with
  | zero=>exact ⟨h.1,by rw [←hw]; exact h.2⟩
  | succ fuel=>
   refine ⟨fun h0=>by rw [←hw]; exact h.1 h0,fun i hi=>?_⟩;have:=h.2 i hi;rw [hw] at this;exact wpOpIn_mono (fun a w ⟨c2,h1,h2,h3,h4⟩=>⟨c2,h1,hA.trans h2,h3.imp id fun h5 h6=>h5 (hk h6),h4⟩) this
 exact key _ _ _ h
theorem WL.callP {ops:Array Oper} {rest:List Oper} {f:FuncId} {args:Array Value} {X:Cx→Value→Prop} (hg:o.guard=none) (hr:(execOp (ev n e) o).run P c.w= .ok (.enter f args) c.w)
  (hc:Calls P f args c.w (aX c X)) (h:∀v c',c.le c'→X c' v→WL P ops n Q rest (upO e o.dst v) c'.w):WL P ops n Q (o :: rest) e c.w:=
 WL.call hg hr (hc.mono fun x w ⟨v,c',h1,h2,h3,h4⟩=>⟨v,h1,by subst h2; exact h v c' h3 h4⟩)
theorem WL.gh {ops:Array Oper} {rest:List Oper} {c':Cx} (hw:c'.w=c.w) (h:WL P ops n Q rest e c'.w):WL P ops n Q rest e c.w:=hw▸ h
end
end Go.Lt
namespace Go.Lt
section
variable {P:Program} {c c':Cx} {G:Gm} {F:List En} {α:Type} {R:Rp α}
theorem rv {s:Sem Value} {w w':World} {v:Value} (h:s.run P w= .ok v w'):(do pure (Next.value (←s)):Sem Next).run P w= .ok (.value v) w':=by
  simp [h,Result.andThen]
theorem rs {s:Sem Unit} {w w':World} (h:s.run P w= .ok () w'):(do s; pure Next.skip:Sem Next).run P w= .ok .skip w':=by
  simp [h,Result.andThen]
theorem rx {ρ:Operand→Value} {o:Oper} {s:Sem Value} {w w':World} {v:Value} (hx:execOp ρ o=(do pure (Next.value (←s)):Sem Next)) (h:s.run P w= .ok v w'):(execOp ρ o).run P w= .ok (.value v) w':=by
  rw [hx];exact rv h
theorem rm {v:Value} {xs:List α} {T E:TypeId} {k:IntKind} {i:Int} {x:α} (hT:P.underlying T=some (.slice E)) (hE:(P.info? E).map (·.size)=some R.size)
    (h:Sl R c v xs) (hi:idx xs i=some x) (w:World):(Instr.indexAt T v (.int k i)).run P w= .ok (.pointer (some ⟨sb v,so v+i.toNat * R.size,none⟩)) w:=by
  obtain ⟨a,cap,rfl,_,_,h4⟩:=h;unfold idx at hi;split at hi
  · rename_i h0
    have hlt:i.toNat < xs.length:=by
      rcases aG i.toNat xs.length with h | h
      · exact h
      · rw [cO h] at hi; cases hi
    obtain ⟨b,off,l,rfl,_,_⟩:=h4 _ _ hi;obtain ⟨ti,hti,hsz⟩:=Option.map_eq_some_iff.1 hE;have hlt':i < xs.length:=by omega
    simp [Instr.indexAt,asIntOf,di hT,h0,hlt',sizeOf,typeInfo,hti,hsz,sb,so,gn]
  · cases hi
theorem tV {v:Value} {xs:List α} {T E ty:TypeId} (hT:P.underlying T=some (.slice E)) (h:Sl R c v xs) (w:World):
    (Builtin.len_ #[T] ty #[v]).run P w= .ok (.int .i64 (xs.length:Int)) w:=by
  obtain ⟨a,cap,rfl,_⟩:=h;simp [Builtin.len_,di hT,goInt]
theorem nP {T:TypeId} {b o:Nat} {v:Value} {d:TypeDesc} (hT:P.underlying T=some d) (hd:(match d with | .struct _ | .array _ _=>false | _=>true)=true)
    (h:Im c b o v):(Instr.loadAt T (.pointer (some ⟨b,o,none⟩))).run P c.w= .ok v c.w:=by
  cases d <;> simp_all [Instr.loadAt,Instr.sureAddr,loadVar,isAgg,di hT,load,Sem.run,h.cell]
theorem kK (b:Nat) {w:World}:∀(l:List Value) (o i:Nat) (acc:Array Value),(∀j u,l[j]? = some u→w.cell? ⟨b,o+i+j,none⟩=some u)→
    (loadCellsFrom ⟨b,o,none⟩ i l.length acc).run P w= .ok (acc++l.toArray) w:=by
  intro l
  induction l with
  | nil=>intro o i acc h; simp [loadCellsFrom]
  | cons v l ih=>
    intro o i acc h;have h0:=h 0 v rfl;simp only [pR] at h0;simp only [aj,loadCellsFrom,gn,load,eo,Sem.run,h0,Result.andThen];rw [ih o (i+1) (acc.push v) (fun j u hu=>by have:=h (j+1) u hu; rwa [show o+i+(j+1)=o+(i+1)+j by omega] at this)];simp
theorem jQ {w:World} {T:TypeId} {b o:Nat} {l:List Value} (hT:(P.underlying T).map (fun d=>match d with | .struct _ | .array _ _=>true | _=>false)=some true) (hs:(P.info? T).map (·.size)=some l.length)
    (h:∀j u,l[j]? = some u→w.cell? ⟨b,o+j,none⟩=some u):(loadVar T ⟨b,o,none⟩).run P w= .ok (.agg l.toArray) w:=by
  obtain ⟨ti,hti,hsz⟩:=Option.map_eq_some_iff.1 hs;obtain ⟨d,hd,hag⟩:=Option.map_eq_some_iff.1 hT;have h1:=kK (P:=P) (w:=w) b l o 0 #[] (fun j u hu=>h j u hu);have h2:(isAgg T).run P w= .ok true w:=by
    cases d <;> simp_all [isAgg,di hd]
  rw [←hsz] at h1;simp [loadVar,h2,sizeOf,typeInfo,hti,loadCells,h1,Result.andThen]
theorem rl {T:TypeId} {b o:Nat} {l:List Value} (hT:(P.underlying T).map (fun d=>match d with | .struct _ | .array _ _=>true | _=>false)=some true) (hs:(P.info? T).map (·.size)=some l.length)
    (h:∀j u,l[j]? = some u→Im c b (o+j) u):(Instr.loadAt T (.pointer (some ⟨b,o,none⟩))).run P c.w= .ok (.agg l.toArray) c.w:=by
  simp only [Instr.loadAt,Instr.sureAddr,eo,vA,Result.andThen];exact jQ hT hs fun j u hu=>(h j u hu).cell
theorem qQ {b o k:Nat} {L l:List Value} (h:∀j u,L[j]? = some u→Im c b (o+j) u) (hl:(L.drop k).take l.length=l):∀j u,l[j]? = some u→Im c b (o+k+j) u:=fun j u hu=>by
  rw [←hl,eC] at hu;split at hu
  · rw [jK] at hu
    have:=h _ _ hu
    rwa [Nat.add_assoc]
  · cases hu
theorem En.on.cell {e:En} (h:e.on c) {b:Nat} (hb:blk e.v=some b) (j:Nat):c.w.cell? ⟨b,j,none⟩=e.vs[j]? :=by
  simp [World.cell?,(h b hb).1]
theorem wO {T:TypeId} {e:En} {b j:Nat} {v:Value} {d:TypeDesc} (hT:P.underlying T=some d) (hd:(match d with | .struct _ | .array _ _=>false | _=>true)=true)
    (h:e.on c) (hb:blk e.v=some b) (hj:e.vs[j]? = some v):(Instr.loadAt T (.pointer (some ⟨b,j,none⟩))).run P c.w= .ok v c.w:=by
  have hc:c.w.cell? ⟨b,j,none⟩=some v:=by rw [h.cell hb,hj]
  cases d <;> simp_all [Instr.loadAt,Instr.sureAddr,loadVar,isAgg,di hT,load,Sem.run]
theorem wN {T:TypeId} {e:En} {b j:Nat} {l:List Value} (hT:(P.underlying T).map (fun d=>match d with | .struct _ | .array _ _=>true | _=>false)=some true) (hs:(P.info? T).map (·.size)=some l.length)
    (h:e.on c) (hb:blk e.v=some b) (hl:(e.vs.drop j).take l.length=l):(Instr.loadAt T (.pointer (some ⟨b,j,none⟩))).run P c.w= .ok (.agg l.toArray) c.w:=by
  simp only [Instr.loadAt,Instr.sureAddr,eo,vA,Result.andThen];refine jQ hT hs fun i u hu=>?_;have:(e.vs.drop j)[i]? = some u:=by
    rw [←hl,eC] at hu;split at hu
    · exact hu
    · cases hu
  rw [jK] at this;rw [h.cell hb,this]
def gG:List Value→Prop
  | []=>True
  | u :: l=>u.oneCell'=true∧gG l
theorem gG.mem:∀{l:List Value},gG l→∀u∈l,u.oneCell'=true
  | [],_,u,hu=>by cases hu
  | a :: l,h,u,hu=>by
    rcases List.mem_cons.1 hu with rfl | hu
    · exact h.1
    · exact h.2.mem u hu
theorem frozen?_row {w w':World} {b:Nat} {l m:Array Value} {T:TypeId} (h:w.heap[b]? = some (.cells l T (0,0))) (h':w'.heap[b]? = some (.cells m T (0,0))) (ho:∀k,k≠b→w'.heap[k]? = w.heap[k]?) (a:Addr):w'.frozen? a=w.frozen? a:=by
  by_cases hk:a.block=b
  · simp [World.frozen?,hk,h,h']
  · simp [World.frozen?,ho _ hk]
theorem Cx.row {b:Nat} {l m:List Value} {T:TypeId} (h:c.w.heap[b]? = some (.cells l.toArray T (0,0))) (lim:Nat) (hA:∀o,c.A b o↔lim≤o) (hs:∀o,o < lim→m[o]? = l[o]?) (lim':Nat) (hl:lim≤lim'):
    ∃c':Cx,c'.w=c.w.setRow b m.toArray∧c.but (fun k=>k=b) c'∧c'.w.heap[b]? = some (.cells m.toArray T (0,0))∧∀o,c'.A b o↔lim'≤o:=by
  have hbk:=setRow_heap c.w b l.toArray m.toArray T (0,0) h;have hoth:∀k,k≠b→(c.w.setRow b m.toArray).heap[k]? = c.w.heap[k]? :=fun k hk=>setRow_other c.w b k _ hk;have hsz:(c.w.setRow b m.toArray).heap.size=c.w.heap.size:=by simp [World.setRow]
  refine ⟨⟨c.w.setRow b m.toArray,fun k o=>(k≠b∧c.A k o)∨(k=b∧lim'≤o),c.t⟩,rfl,⟨⟨rfl,rfl,by rw [hsz]; exact aB _,fun k o hk hnA=>?_,fun k hk hnA=>?_,fun a _ _=>frozen?_row h hbk hoth a,fun _ _ _ h=>h⟩,rfl,fun k hk hkb=>⟨hoth k hkb,fun o=>?_⟩⟩,hbk,fun o=>?_⟩
  · by_cases hkb:k=b
    · subst hkb
      have ho:o < lim:=by
        rcases aG o lim with h | h
        · exact h
        · exact absurd ((hA o).2 h) hnA
      refine ⟨?_,?_⟩
      · rw [cell_setRow_same c.w k o l.toArray _ T (0,0) h,kf c.w k o l.toArray T (0,0) h,bP,bP,hs o ho]
      · rintro (h | h)
        · exact h.1 rfl
        · omega
    · refine ⟨cy (w:=c.w) (a:=⟨k,o,none⟩) (hoth k hkb),?_⟩
      rintro (h | h)
      · exact hnA h.2
      · exact hkb h.1
  · by_cases hkb:k=b
    · subst hkb
      exact absurd ((hA lim).2 (aB _)) (hnA lim)
    · exact hoth k hkb
  · simp [hkb]
  · simp
theorem stE {T:TypeId} {e:En} {b o:Nat} {us:List Value} {v:Value} (h:e.on c) (hb:blk e.v=some b) (hlim:e.lim=0) (hv:v.cells.toList=us) (hs:(P.info? T).map (·.size)=some us.length) (h1:gG us)
    (hl:o+us.length≤e.vs.length):∃c',(Instr.storeAt T (.pointer (some ⟨b,o,none⟩)) v).run P c.w= .ok () c'.w∧c.but (fun k=>k=b) c'∧(⟨e.v,e.T,e.vs.take o++us++e.vs.drop (o+us.length),0⟩:En).on c':=by
  obtain ⟨ti,hti,hsz⟩:=Option.map_eq_some_iff.1 hs;have hh:=h b hb;have h2:=run_storeCells_at P b o e.T us 0 e.vs.toArray c.w hh.1 (by simpa using hl) h1.mem;have hz:v.cells.size=us.length:=by rw [←hv]; simp
  simp only [pR] at h2;obtain ⟨c',e1,e2,e3,e4⟩:=Cx.row (m:=e.vs.take o++us++e.vs.drop (o+us.length)) hh.1 e.lim hh.2 (fun o ho=>by omega) 0 (by omega);refine ⟨c',?_,e2,fun b' hb'=>?_⟩
  · rw [e1]
    simp [Instr.storeAt,Instr.sureAddr,storeVar,sizeOf,typeInfo,hti,hsz,hz,hv,h2,Result.andThen]
  · simp only at hb'
    rw [hb] at hb';cases hb';exact ⟨e3,e4⟩
variable {ρ:Operand→Value} {o:Oper}
theorem Own.st {T:TypeId} {e:En} {b j:Nat} {us nw:List Value} {v:Value} (k:Nat) (O:Own c G F) (hx:execOp ρ o=(do Instr.storeAt T (.pointer (some ⟨b,j,none⟩)) v; pure Next.skip:Sem Next)) (hk:F[k]? = some e) (hb:blk e.v=some b) (hlim:e.lim=0)
    (hv:v.cells.toList=us) (hs:(P.info? T).map (·.size)=some us.length) (h1:gG us) (hl:Nat.ble (j+us.length) e.vs.length=true) (hn:e.vs.take j++us++e.vs.drop (j+us.length)=nw):
    ∃c',(execOp ρ o).run P c.w= .ok .skip c'.w∧c.le c'∧Own c' G (F.set k ⟨e.v,e.T,nw,0⟩):=by
  subst hn;obtain ⟨c',h1,h2,h3⟩:=stE (O.on k hk) hb hlim hv hs h1 (bD hl);exact ⟨c',by rw [hx]; exact rs h1,h2.le,O.set k hk h2 (fun b' hb'=>by rw [hb,hb']) h3 (fun b h=> .inl h)⟩
theorem Own.stG {T:TypeId} {e:En} {b j:Nat} {us nw:List Value} {v:Value} {g k:Nat} {E:List En} (r:Nat) (O:Own c G F) (hx:execOp ρ o=(do Instr.storeAt T (.pointer (some ⟨b,j,none⟩)) v; pure Next.skip:Sem Next)) (hE:G g k=E) (hr:E[r]? = some e) (hb:blk e.v=some b) (hlim:e.lim=0)
    (hv:v.cells.toList=us) (hs:(P.info? T).map (·.size)=some us.length) (h1:gG us) (hl:Nat.ble (j+us.length) e.vs.length=true) (hn:e.vs.take j++us++e.vs.drop (j+us.length)=nw):
    ∃c',(execOp ρ o).run P c.w= .ok .skip c'.w∧c.le c'∧Own c' (fK G g k (E.set r ⟨e.v,e.T,nw,0⟩)) F:=by
  subst hn;obtain ⟨c',h1,h2,h3⟩:=stE (O.gon hE r hr) hb hlim hv hs h1 (bD hl);exact ⟨c',by rw [hx]; exact rs h1,h2.le,O.setR r hE hr h2 (fun b' hb'=>by rw [hb,hb']) h3 (fun b h=> .inl h)⟩
theorem Cx.new (c:Cx) (vs:List Value) (T:TypeId) (lim:Nat):∃c':Cx,c'.w=c.w.alloc (.cells vs.toArray T)∧c.but (fun _=>False) c'∧c'.w.heap[c.w.heap.size]? = some (.cells vs.toArray T (0,0))∧c.w.heap.size < c'.w.heap.size∧∀o,c'.A c.w.heap.size o↔lim≤o:=
  ⟨⟨c.w.alloc (.cells vs.toArray T),fun k p=>(k < c.w.heap.size∧c.A k p)∨(k=c.w.heap.size∧lim≤p),c.t⟩,rfl,
   ⟨⟨rfl,rfl,by simp,fun k p hk hA=>⟨cy (w:=c.w) (a:=⟨k,p,none⟩) (aY _ _ _ hk),by rintro (h | h); exact hA h.2; omega⟩,fun k hk _=>aY _ _ _ hk,fun a _ _=>tr _ _ _ _,fun _ _ _ h=>h⟩,rfl,
    fun k hk _=>⟨aY _ _ _ hk,fun p=>⟨by rintro (h | h); exact h.2; omega,fun h=> .inl ⟨hk,h⟩⟩⟩⟩,gW c.w _,by simp,fun o=>by simp⟩
theorem Own.al {T:TypeId} {vs:List Value} (O:Own c G F) (hr:(execOp ρ o).run P c.w= .ok (.value (.pointer (some ⟨c.w.heap.size,0,none⟩))) (c.w.alloc (.cells vs.toArray T))):
    ∃v c',(execOp ρ o).run P c.w= .ok (.value v) c'.w∧c.le c'∧∃b,v= .pointer (some ⟨b,0,none⟩)∧Own c' G (⟨.pointer (some ⟨b,0,none⟩),T,vs,0⟩ :: F):=by
  obtain ⟨c',h1,h2,h3,_,h4⟩:=Cx.new c vs T 0;refine ⟨_,c',by rw [h1]; exact hr,h2.le,_,rfl,O.cons h2 (fun _=>id) (fun b hb=>?_) (fun b hb=>?_)⟩
  · simp only [blk,aQ] at hb; subst hb; exact ⟨h3,h4⟩
  · simp only [blk,aQ] at hb; omega
theorem Own.bx {T:TypeId} {vs:List Value} (O:Own c G F) (hr:(execOp ρ o).run P c.w= .ok (.value (.pointer (some ⟨c.w.heap.size,0,none⟩))) (c.w.alloc (.cells vs.toArray T))):
    ∃v c',(execOp ρ o).run P c.w= .ok (.value v) c'.w∧c.le c'∧∃b,v= .pointer (some ⟨b,0,none⟩)∧Own c' G F∧∀j u,vs[j]? = some u→Im c' b (0+j) u:=by
  obtain ⟨c',h1,h2,h3,h5,h4⟩:=Cx.new c vs T vs.length;refine ⟨_,c',by rw [h1]; exact hr,h2.le,_,rfl,O.keep h2,fun j u hu=>⟨h5,fun hA=>?_,?_⟩⟩
  · have h6:=(h4 _).1 hA
    have:=(List.getElem?_eq_some_iff.1 hu).1;omega
  · rw [kf _ _ _ _ _ _ h3,bP,gk,hu]
def AR (R:Rp α) (c:Cx) (vs:List Value) (xs:List α):Prop:=∀i x,xs[i]? = some x→R.cells c ((vs.drop (i * R.size)).take R.size) x
def OA (R:Rp α) (c:Cx) (v:Value) (vs:List Value) (xs:List α):Prop:=
  0 < R.size∧((v= .slice none 0 0∧xs= [])∨∃g cap,v= .slice (some ⟨g,0,none⟩) xs.length cap∧xs.length≤cap∧cap≤maxLen∧cap * R.size≤vs.length)∧AR R c vs xs
def es (m:Bool) (R:Rp α) (v:Value) (E:TypeId) (vs:List Value) (xs:List α):En:=⟨v,E,vs,cond m 0 (xs.length * R.size)⟩
theorem AR.lw {vs:List Value} {xs:List α} (h:AR R c vs xs) (k:c.lw c'):AR R c' vs xs:=fun i x hx=>R.mono k (h i x hx)
theorem AR.mono {vs:List Value} {xs:List α} (h:AR R c vs xs) (k:c.le c'):AR R c' vs xs:=h.lw k.lw
theorem OA.lw {v:Value} {vs:List Value} {xs:List α} (h:OA R c v vs xs) (k:c.lw c'):OA R c' v vs xs:=⟨h.1,h.2.1,h.2.2.lw k⟩
theorem OA.mono {v:Value} {vs:List Value} {xs:List α} (h:OA R c v vs xs) (k:c.le c'):OA R c' v vs xs:=h.lw k.lw
theorem OA.nil (h0:0 < R.size):OA R c (.slice none 0 0) [] []:=⟨h0,.inl ⟨rfl,rfl⟩,fun i x h=>by simp at h⟩
theorem OA.one {v:Value} {vs:List Value} {xs:List α} (h:OA R c v vs xs):v.oneCell'=true:=by
  rcases h.2.1 with ⟨rfl,_⟩ | ⟨g,cap,rfl,_⟩ <;> rfl
theorem fX {β:Type} {a b:List β} {i s:Nat} (h:i+s≤a.length):((a++b).drop i).take s=(a.drop i).take s:=by
  rw [qZ (by omega),List.take_append_of_le_length (by rw [fq]; omega)]
theorem gA {i k s:Nat} (h:i < k):i * s+s≤k * s:=by
  have:=iM s (show i+1≤k by omega);rw [eX,nv] at this;exact this
theorem AR.len {vs:List Value} {xs:List α} (h:AR R c vs xs) (hp:0 < R.size):xs.length * R.size≤vs.length:=by
  rcases jI xs.length with h0 | h0
  · rw [h0,pQ]; exact dw _
  · have hx:xs[xs.length - 1]? = some xs[xs.length - 1]:=aq (by omega)
    have:=R.len (h _ _ hx);rw [aC,fq] at this;have e:xs.length * R.size=(xs.length - 1) * R.size+R.size:=by
      conv=>lhs; rw [show xs.length=xs.length - 1+1 by omega,eX,nv]
    omega
theorem OA.sl {v:Value} {E:TypeId} {vs:List Value} {xs:List α} (h:OA R c v vs xs) (hon:(es false R v E vs xs).on c):Sl R c v xs:=by
  obtain ⟨hp,h1,h2⟩:=h;rcases h1 with ⟨rfl,rfl⟩ | ⟨g,cap,rfl,hc,hm,hcs⟩
  · exact Sl.nl R c
  · obtain ⟨h3,h4⟩:=hon g rfl
    refine ⟨_,cap,rfl,hc,hm,fun i x hx=>⟨g,0,_,rfl,h2 i x hx,fun j u hu=>?_⟩⟩;have hj:j < R.size∧vs[i * R.size+j]? = some u:=by
      rw [eC] at hu;split at hu
      · rename_i hj
        exact ⟨hj,by rwa [jK] at hu⟩
      · cases hu
    have hi:=gA (s:=R.size) (List.getElem?_eq_some_iff.1 hx).1;refine ⟨(Array.getElem?_eq_some_iff.1 h3).1,fun hA=>?_,?_⟩
    · have:=(h4 _).1 hA
      simp only [es,wS] at this;omega
    · rw [kf _ _ _ _ _ _ h3,bP,gk]
      exact hj.2
theorem Own.frz {v:Value} {E:TypeId} {vs:List Value} {xs:List α} (k:Nat) (O:Own c G F) (hk:F[k]? = some (es true R v E vs xs)) (h:OA R c v vs xs):
    ∃c',c'.w=c.w∧c.le c'∧Own c' G (F.set k (es false R v E vs xs))∧Sl R c' v xs:=by
  have hon:=O.on k hk
  let c':Cx:=⟨c.w,fun b o=>c.A b o∧¬(blk v=some b∧o < xs.length * R.size),c.t⟩
  have hle:c.le c':=⟨rfl,rfl,aB _,fun _ _ _ h=>⟨rfl,fun h2=>h h2.1⟩,fun _ _ _=>rfl,fun _ _ _=>rfl,fun _ _ _ h=>h⟩;have hb:c.but (fun b=>blk v=some b) c':=⟨hle,rfl,fun b hb hd=>⟨rfl,fun o=>⟨fun h=>h.1,fun h=>⟨h,fun h2=>hd h2.1⟩⟩⟩⟩;have hon':(es false R v E vs xs).on c':=fun b hb=>by
    obtain ⟨h1,h2⟩:=hon b hb;refine ⟨h1,fun o=>?_⟩;have hb':blk v=some b:=hb;simp only [c',hb',true_and,es,wS];rw [h2 o];simp [es]
  exact ⟨c',rfl,hle,O.set k hk hb (fun b h=>h) hon' (fun b h=> .inl h),(h.mono hle).sl hon'⟩
theorem Own.slf {v:Value} {E:TypeId} {vs:List Value} {xs:List α} (k:Nat) (O:Own c G F) (hk:F[k]? = some (es false R v E vs xs)) (h:OA R c v vs xs):Sl R c v xs:=h.sl (O.on k hk)
theorem Sl.flat {u:Value} {ys:List α} (h:Sl R c u ys):∃nw:List Value,nw.length=ys.length * R.size∧(∀j w,nw[j]? = some w→Im c (sb u) (so u+j) w)∧(∀w∈nw,w.oneCell'=true)∧
    (∀i x,ys[i]? = some x→R.cells c ((nw.drop (i * R.size)).take R.size) x):=by
  suffices ∀k,k≤ys.length→∃nw:List Value,nw.length=k * R.size∧(∀j w,nw[j]? = some w→Im c (sb u) (so u+j) w)∧(∀w∈nw,w.oneCell'=true)∧
      (∀i x,i < k→ys[i]? = some x→R.cells c ((nw.drop (i * R.size)).take R.size) x) by
    obtain ⟨nw,h1,h2,h3,h4⟩:=this ys.length (aB _);exact ⟨nw,h1,h2,h3,fun i x hx=>h4 i x (List.getElem?_eq_some_iff.1 hx).1 hx⟩
  intro k
  induction k with
  | zero=>exact fun _=>⟨[],by simp,by simp,by simp,fun i x hi=>by omega⟩
  | succ k ih=>
    intro hk;obtain ⟨nw,h1,h2,h3,h4⟩:=ih (by omega);have hx:ys[k]? = some ys[k]:=aq (by omega);obtain ⟨l,hl,hc⟩:=h.at hx;have hll:=R.len hl;refine ⟨nw++l,by rw [ac,h1,hll,eX,nv],fun j w hw=>?_,fun w hw=>?_,fun i x hi hxi=>?_⟩
    · rcases aG j nw.length with hj | hj
      · rw [cL hj] at hw
        exact h2 j w hw
      · rw [dr hj] at hw
        have:=hc _ _ hw;rw [h1] at this
        rwa [show so u+k * R.size+(j - k * R.size)=so u+j by omega] at this
    · rcases List.mem_append.1 hw with hw | hw
      · exact h3 w hw
      · exact R.one hl w hw
    · rcases aG i k with hik | hik
      · rw [fX (by rw [h1]; exact gA hik)]
        exact h4 i x hik hxi
      · obtain rfl:i=k:=by omega
        rw [hx] at hxi;cases hxi;rw [←h1,iq,bw (by omega)];exact hl
theorem lV (z:Array Value) (n:Nat):(Builtin.zeroCells z n).size=n * z.size:=by simp [Builtin.zeroCells]
theorem qo {E t ty:TypeId} {v:Value} {vs:List Value} {xs ys zs:List α} {z:Value} {by_:Nat} {m:Bool} {ua:Option Addr} {ucap:Nat} {nw:List Value} (k:Nat) (O:Own c G F) (hk:F[k]? = some (es m R v E vs xs)) (h:OA R c v vs xs)
    (n1:nw.length=ys.length * R.size) (n2:ys≠ []→∃ub uo,ua=some ⟨ub,uo,none⟩∧∀j w,nw[j]? = some w→c.w.cell? ⟨ub,uo+j,none⟩=some w) (n3:∀w∈nw,w.oneCell'=true) (n4:∀i x,ys[i]? = some x→R.cells c ((nw.drop (i * R.size)).take R.size) x) (happ:app xs ys=some zs)
    (hT:P.underlying t=some (.slice E)) (hi:(P.info? E).map (fun i=>(i.zero,i.size,i.bytes))=some (some z,R.size,by_)) (hz:z.cells.size=R.size) (hby:Nat.ble by_ 128=true):
    ∃v' c',(Builtin.append_ #[t,t] ty #[v,.slice ua ys.length ucap]).run P c.w= .ok v' c'.w∧c.le c'∧∃vs',Own c' G (F.set k (es m R v' E vs' zs))∧OA R c' v' vs' zs:=by
  have hby:=bD hby;have hfar:xs.length+ys.length≤far∧xs++ys=zs:=by
    unfold app at happ;split at happ
    · exact ⟨by assumption,by simpa using happ⟩
    · cases happ
  obtain ⟨hfar,rfl⟩:=hfar;unfold far at hfar;obtain ⟨ti,hti,hzz⟩:=Option.map_eq_some_iff.1 hi;simp only [Prod.mk.injEq] at hzz;obtain ⟨hz1,hz2,hz3⟩:=hzz;have hon:=O.on k hk;have hklt:=(List.getElem?_eq_some_iff.1 hk).1;have hh:=h;obtain ⟨hp,h1,h2⟩:=h;by_cases hys:ys= []
  · subst hys
    refine ⟨v,c,?_,Cx.le.refl c,vs,?_,by rw [cS]; exact hh⟩
    · rcases h1 with ⟨rfl,rfl⟩ | ⟨g,cap,rfl,hcap,_⟩
      · cases ua <;> simp [Builtin.append_,di hT,sizeOf,typeInfo,hti,Builtin.lenOf,Builtin.firstCells,loadCells,loadCellsFrom,storeCells]
      · cases ua <;> simp [Builtin.append_,di hT,sizeOf,typeInfo,hti,Builtin.lenOf,Builtin.firstCells,loadCells,loadCellsFrom,storeCells,hcap]
    · rw [cS]
      have:F.set k (es m R v E vs xs)=F:=by
        apply ip;intro j;by_cases hj:k=j
        · subst hj; rw [dq hklt,hk]
        · rw [dN hj]
      rw [this]; exact O
  · have hpos:0 < ys.length:=by
      rcases jI ys.length with h | h
      · exact absurd (dO h) hys
      · exact h
    obtain ⟨ub,uo,hua,n5⟩:=n2 hys;subst hua;have hcells:∀j w,nw[j]? = some w→c.w.cell? ((⟨ub,uo,none⟩:Addr).add j)=some w:=fun j w hw=>by
      rw [gn];exact n5 j w hw
    have hN:(xs++ys).length=xs.length+ys.length:=ac;have hxl:=h2.len hp;have helem:∀(c':Cx) (tail:List Value),c.le c'→AR R c' (vs.take (xs.length * R.size)++nw++tail) (xs++ys):=fun c' tail hcc i x hx=>by
      have hlt:(vs.take (xs.length * R.size)).length=xs.length * R.size:=by rw [aC]; omega
      rcases aG i xs.length with hi' | hi'
      · have hm:=gA (s:=R.size) hi'
        rw [aA,fX (by rw [hlt]; exact hm)];rw [cL hi'] at hx;have:=h2 i x hx;rw [nz,jJ,show min R.size (xs.length * R.size - i * R.size)=R.size by omega];exact R.mono hcc this
      · rw [dr hi'] at hx
        have h4:=n4 _ _ hx;have hiy:=gA (s:=R.size) (List.getElem?_eq_some_iff.1 hx).1;have e:i * R.size=xs.length * R.size+(i - xs.length) * R.size:=by rw [←eX]; congr 1; omega
        have e2:(vs.take (xs.length * R.size)++(nw++tail)).drop (xs.length * R.size)=nw++tail:=by
          conv=>lhs; arg 1; rw [←hlt]
          exact iq
        rw [aA,e,←jM,e2,fX (by rw [n1]; omega)];exact R.mono hcc h4
    have hbytes:(xs.length+ys.length) * ti.bytes≤140737488355328:=by
      rw [hz3];exact dI (Nat.mul_le_mul hfar hby) (by decide)
    have fresh:∀old,old < xs.length+ys.length→
        ∃v' c',Result.ok (α:=Value) (.slice (some ⟨c.w.heap.size,0,none⟩) (xs.length+ys.length) (grownCap c.w (xs.length+ys.length) old E)) (c.w.drew.alloc (.cells ((vs.take (xs.length * R.size)).toArray++nw.toArray++Builtin.zeroCells z.cells (grownCap c.w (xs.length+ys.length) old E - (xs.length+ys.length))) E))= .ok v' c'.w∧c.le c'∧
        ∃vs',Own c' G (F.set k (es m R v' E vs' (xs++ys)))∧OA R c' v' vs' (xs++ys):=by
      intro old ho;have hge:=grownCap_ge c.w (xs.length+ys.length) old E;have hcm:grownCap c.w (xs.length+ys.length) old E≤maxLen:=wP c.w _ old E (by unfold maxLen; omega);have hd:=Cx.drew_le c;obtain ⟨c',e1,e2,e3,e4,e5⟩:=Cx.new ⟨c.w.drew,c.A,c.t⟩ ((vs.take (xs.length * R.size))++nw++(Builtin.zeroCells z.cells (grownCap c.w (xs.length+ys.length) old E - (xs.length+ys.length))).toList) E (cond m 0 ((xs++ys).length * R.size));have ea:((vs.take (xs.length * R.size))++nw++(Builtin.zeroCells z.cells (grownCap c.w (xs.length+ys.length) old E - (xs.length+ys.length))).toList).toArray=(vs.take (xs.length * R.size)).toArray++nw.toArray++Builtin.zeroCells z.cells (grownCap c.w (xs.length+ys.length) old E - (xs.length+ys.length)):=by
        apply Array.ext'; simp
      refine ⟨.slice (some ⟨c.w.heap.size,0,none⟩) (xs.length+ys.length) (grownCap c.w (xs.length+ys.length) old E),c',by rw [e1,ea],hd.le.trans e2.le,(vs.take (xs.length * R.size))++nw++(Builtin.zeroCells z.cells (grownCap c.w (xs.length+ys.length) old E - (xs.length+ys.length))).toList,Own.set (O.keep hd) k hk e2 (fun b (h:False)=>h.elim) (fun b hb=>?_) (fun b hb=>?_),hp,.inr ⟨c.w.heap.size,_,by rw [hN],by rw [hN]; exact hge,hcm,?_⟩,?_⟩
      · simp only [es,blk,aQ] at hb; subst hb; exact ⟨e3,e5⟩
      · simp only [es,blk,aQ] at hb; subst hb; exact .inr (aB _)
      · simp only [ac,wC,lV,hz,n1,aC]
        have:grownCap c.w (xs.length+ys.length) old E * R.size=xs.length * R.size+ys.length * R.size+(grownCap c.w (xs.length+ys.length) old E - (xs.length+ys.length)) * R.size:=by
          rw [←eX,←eX]; congr 1; omega
        rw [this,eR hxl];exact aB _
      · exact helem c' _ (hd.le.trans e2.le)
    rcases h1 with ⟨rfl,rfl⟩ | ⟨g,cap,rfl,hnc,hcm,hcs⟩
    · have hr:=run_append_nil (P:=P) c.w t ty E ti z hT hti hz1 ⟨ub,uo,none⟩ ys.length ucap nw (by rw [n1,hz2]) hcells hpos (by simp at hfar; omega) (by have:=hbytes; simp at this; omega)
      have:=fresh 0 (by simpa using hpos);simp only [aM,gk,pQ,nx,xg,cR] at this hr⊢;rw [hr];simpa using this
    · obtain ⟨hg,hA⟩:=hon g rfl
      by_cases hroom:xs.length+ys.length≤cap
      · have hfit:xs.length * R.size+nw.length≤vs.length:=by
          rw [n1,←eX];exact dI (iM _ hroom) hcs
        have hr:=run_append_room (P:=P) c.w t ty E ti hT hti g xs.length cap vs.toArray hg ⟨ub,uo,none⟩ ys.length ucap nw (by rw [n1,hz2]) hcells n3 hroom (by rw [hz2]; simpa using hfit);rw [hz2] at hr;simp only at hr;obtain ⟨c',e1,e2,e3,e4⟩:=Cx.row (m:=vs.take (xs.length * R.size)++nw++vs.drop (xs.length * R.size+nw.length)) hg _ hA (fun o ho=>by
          have ho:o < xs.length * R.size:=by
            cases m
            · exact ho
            · exact absurd ho (Nat.not_lt_zero _)
          rw [aA,cL (by rw [aC]; omega),eC,ai ho];rfl) (cond m 0 ((xs++ys).length * R.size)) (by
            cases m
            · simp only [es,wS]; exact iM _ (by rw [hN]; omega)
            · exact aB _)
        refine ⟨.slice (some ⟨g,0,none⟩) (xs.length+ys.length) cap,c',by rw [hr,e1],e2.le,vs.take (xs.length * R.size)++nw++vs.drop (xs.length * R.size+nw.length),Own.set O k hk e2 (fun b h=>by subst h; rfl) (fun b hb=>?_) (fun b hb=> .inl hb),hp,.inr ⟨g,cap,by rw [hN],by rw [hN]; exact hroom,hcm,?_⟩,helem c' _ e2.le⟩
        · simp only [es,blk,aQ] at hb; subst hb; exact ⟨e3,e4⟩
        · simp only [ac,fq,aC]
          omega
      · have holds:∀j w,(vs.take (xs.length * R.size))[j]? = some w→c.w.cell? ((⟨g,0,none⟩:Addr).add j)=some w:=fun j w hw=>by
          rw [gn,gk,kf _ _ _ _ _ _ hg,bP];rw [eC] at hw;split at hw
          · exact hw
          · cases hw
        have hr:=run_append_grow (P:=P) c.w t ty E ti z hT hti hz1 ⟨g,0,none⟩ xs.length cap (vs.take (xs.length * R.size)) (by rw [aC,hz2]; omega) holds ⟨ub,uo,none⟩ ys.length ucap nw (by rw [n1,hz2]) hcells (by omega) (by omega) (growslice_fits (by omega) hbytes);rw [hr];exact fresh cap (by omega)
theorem rH {E t ty:TypeId} {v u:Value} {vs:List Value} {xs ys zs:List α} {z:Value} {by_:Nat} {m:Bool} (k:Nat) (O:Own c G F) (hk:F[k]? = some (es m R v E vs xs)) (h:OA R c v vs xs) (hS:Sl R c u ys) (happ:app xs ys=some zs)
    (hT:P.underlying t=some (.slice E)) (hi:(P.info? E).map (fun i=>(i.zero,i.size,i.bytes))=some (some z,R.size,by_)) (hz:z.cells.size=R.size) (hby:Nat.ble by_ 128=true):
    ∃v' c',(Builtin.append_ #[t,t] ty #[v,u]).run P c.w= .ok v' c'.w∧c.le c'∧∃vs',Own c' G (F.set k (es m R v' E vs' zs))∧OA R c' v' vs' zs:=by
  obtain ⟨nw,n1,n2,n3,n4⟩:=hS.flat;obtain ⟨ua,ucap,rfl,hu1,hu2,hu3⟩:=hS;refine qo k O hk h n1 (fun hys=>?_) n3 n4 happ hT hi hz hby;have hpos:0 < ys.length:=by
    rcases jI ys.length with h | h
    · exact absurd (dO h) hys
    · exact h
  obtain ⟨ub,uo,_,hua,_⟩:=hu3 0 ys[0] (aq hpos);subst hua;exact ⟨ub,uo,rfl,fun j w hw=>(n2 j w hw).cell⟩
end
end Go.Lt
namespace Go.Lt
section
variable {P:Program} {c c':Cx} {G:Gm} {F:List En} {α:Type} {R:Rp α} {ρ:Operand→Value} {o:Oper}
variable {n:Fr} {ops:Array Oper} {Q:Exit→(Nat→Value)→World→Prop} {rest:List Oper} {e:Nat→Value} {D:List Nat} {K:Cx→Prop} {l:List Oper} {fuel:Nat} {li:List Bool}
theorem WL.mem {X:Value→Cx→Prop} (hg:o.guard=none) (hr:∃v c',(execOp (ev n e) o).run P c.w= .ok (.value v) c'.w∧c.le c'∧X v c')
  (h:∀v c',c.le c'→X v c'→WL P ops n Q rest (upO e o.dst v) c'.w):WL P ops n Q (o :: rest) e c.w:=by
 obtain ⟨v,c',h1,h2,h3⟩:=hr;exact WL.val hg h1 (h v c' h2 h3)
theorem WL.memD {X:Cx→Prop} (hg:o.guard=none) (hr:∃c',(execOp (ev n e) o).run P c.w= .ok .skip c'.w∧c.le c'∧X c')
  (h:∀c',c.le c'→X c'→WL P ops n Q rest (upO e o.dst undef) c'.w):WL P ops n Q (o :: rest) e c.w:=by
 obtain ⟨c',h1,h2,h3⟩:=hr;exact WL.do_ hg h1 (h c' h2 h3)
theorem Go1.mem (i:Nat) {X:Value→Cx→Prop} (hi:l.toArray[i]? = some o) (hsl:cU n l=true) (hw:ec l.toArray n e o=true) (hr:∃v c',(execOp (ev n e) o).run P c.w= .ok (.value v) c'.w∧c.le c'∧X v c')
  (h:∀v c',c.le c'→X v c'→(D.contains i=true∨K c')∧AC D K P l n Q fuel (li.set i true) (upO e o.dst v) c'):Go1 D K P l n Q fuel li e c i:=by
 obtain ⟨v,c',h1,h2,h3⟩:=hr;have:=h v c' h2 h3;exact Go1.val hi hsl hw h1 h2 this.1 this.2
theorem Go1.memD (i:Nat) {X:Cx→Prop} (hi:l.toArray[i]? = some o) (hsl:cU n l=true) (hw:ec l.toArray n e o=true) (hr:∃c',(execOp (ev n e) o).run P c.w= .ok .skip c'.w∧c.le c'∧X c')
  (h:∀c',c.le c'→X c'→(D.contains i=true∨K c')∧AC D K P l n Q fuel (li.set i true) (upO e o.dst undef) c'):Go1 D K P l n Q fuel li e c i:=by
 obtain ⟨c',h1,h2,h3⟩:=hr;have:=h c' h2 h3;exact Go1.do_ hi hsl hw h1 h2 this.1 this.2
theorem Go1.callP (i:Nat) {f:FuncId} {args:Array Value} {X:Cx→Value→Prop} (hi:l.toArray[i]? = some o) (hsl:cU n l=true) (hw:ec l.toArray n e o=true)
  (hrun:(execOp (ev n e) o).run P c.w= .ok (.enter f args) c.w) (hc:Calls P f args c.w (aX c X))
  (h:∀v c',c.le c'→X c' v→(D.contains i=true∨K c')∧AC D K P l n Q fuel (li.set i true) (upO e o.dst v) c'):Go1 D K P l n Q fuel li e c i:=Go1.call hi hsl hw hrun hc h
theorem AC.one (i:Nat) (hr:Region.ready .any l.toArray li.toArray= [i]) (h:Go1 D K P l n Q fuel li e c i):AC D K P l n Q (fuel+1) li e c:=AC.many [i] (by simp) hr ⟨h,trivial⟩
theorem Sl.form {v:Value} {xs:List α} (h:Sl R c v xs):∃a n k,v= .slice a n k:=by
 obtain ⟨a,cap,h,_⟩:=h; exact ⟨_,_,_,h⟩
theorem OA.form {v:Value} {vs:List Value} {xs:List α} (h:OA R c v vs xs):∃a n k,v= .slice a n k:=by
 rcases h.2.1 with ⟨h,_⟩ | ⟨g,cap,h,_⟩ <;> exact ⟨_,_,_,h⟩
theorem Pt.form {g:Nat} {v:Value} {p:Option Nat} (h:Pt g c v p):∃a,v= .pointer a:=by
 cases p with
 | none=>exact ⟨_,h⟩
 | some p=>obtain ⟨b,h,_⟩:=h; exact ⟨_,h⟩
theorem va (v:Value) {w:World} (h:WL P ops n Q rest (upO e o.dst v) w) (hg:o.guard=none:=by exact rfl) (hr:(execOp (ev n e) o).run P w= .ok (.value v) w:=by kernel_rfl):WL P ops n Q (o :: rest) e w:=WL.val0 hg hr h
theorem vb {t b:Bool} {w:World} (ht:t=b) (h:WL P ops n Q rest (upO e o.dst (.bool b)) w) (hg:o.guard=none:=by exact rfl) (hr:(execOp (ev n e) o).run P w= .ok (.value (.bool t)) w:=by kernel_rfl):WL P ops n Q (o :: rest) e w:=WL.valb0 ht hg hr h
theorem ps {l:List Oper} {w:World} (h:WL P l.toArray n Q rest (upO e o.dst undef) w) (hs:cU n l=true:=by kernel_rfl) (hw:ec l.toArray n e o=false:=by kernel_rfl):WL P l.toArray n Q (o :: rest) e w:=WL.pass hs hw h
theorem wn {l:List Oper} {w:World} (h:WL P l.toArray n Q ({ o with guard:=none} :: rest) e w) (hs:cU n l=true:=by kernel_rfl) (hw:ec l.toArray n e o=true:=by kernel_rfl):WL P l.toArray n Q (o :: rest) e w:=WL.want hs hw h
theorem ta (i:Nat) (v:Value) (h:AC D K P l n Q fuel (li.set i true) (upO e o.dst v) c) (hi:l.toArray[i]? = some o:=by exact rfl) (ht:tk l n li i=true:=by kernel_rfl) (hw:ec l.toArray n e o=true:=by kernel_rfl)
  (hy:∀w,(execOp (ev n e) o).run P w= .ok (.value v) w:=by intro w; kernel_rfl):AC D K P l n Q (fuel+1) li e c:=AC.take i v hi ht hw (fun c' _=>hy c'.w) h
theorem sr {b:Code} {id:Nat} {l:List Oper} {w:World} (h:WL P l.toArray n (lO (W P n b Q) Q) l e w):W P n ((Code.region id l.toArray false).seq b) Q e w:=W.seq (W.region h)
theorem wln {K:(Nat→Value)→World→Prop} {Q:Exit→(Nat→Value)→World→Prop} {w:World} (h:K e w):WL P ops n (lO K Q) [] e w:=WL.nil (nrm h)
theorem vv {o':Oper} (v:Value) {w:World} (h:WL P ops n Q rest (upO (upO e o.dst v) o'.dst v) w) (hg:o.guard=none:=by exact rfl) (hr:(execOp (ev n e) o).run P w= .ok (.value v) w:=by kernel_rfl) (hg':o'.guard=none:=by exact rfl) (hr':(execOp (ev n (upO e o.dst v)) o').run P w= .ok (.value v) w:=by kernel_rfl):WL P ops n Q (o :: o' :: rest) e w:=va v (va v h hg' hr') hg hr
theorem wa {l:List Oper} (v:Value) {w:World} (h:WL P l.toArray n Q rest (upO e o.dst v) w) (hs:cU n l=true:=by kernel_rfl) (hw:ec l.toArray n e o=true:=by kernel_rfl) (hr:(execOp (ev n e) { o with guard:=none}).run P w= .ok (.value v) w:=by kernel_rfl):WL P l.toArray n Q (o :: rest) e w:=wn (va v h rfl hr) hs hw
theorem pz {l:List Oper} {o':Oper} {w:World} (h:WL P l.toArray n Q rest (upO (upO e o.dst undef) o'.dst undef) w) (hs:cU n l=true:=by kernel_rfl) (hw:ec l.toArray n e o=false:=by kernel_rfl) (hw':ec l.toArray n (upO e o.dst undef) o'=false:=by kernel_rfl):WL P l.toArray n Q (o :: o' :: rest) e w:=ps (ps h hs hw') hs hw
theorem Own.stO {T E:TypeId} {v:Value} {vs:List Value} {xs xs':List α} {i:Int} {x x':α} {j:Nat} {us l l':List Value} {u:Value} (k:Nat) (O:Own c G F) (hx:execOp ρ o=(do Instr.storeAt T (.pointer (some ⟨sb v,i.toNat * R.size+j,none⟩)) u; pure Next.skip:Sem Next))
  (hk:F[k]? = some (es true R v E vs xs)) (h:OA R c v vs xs) (hset:lW xs i x'=some xs') (hm:(vs.drop (i.toNat * R.size)).take R.size=l) (hv:u.cells.toList=us) (hs:(P.info? T).map (·.size)=some us.length) (h1:gG us)
  (hl:Nat.ble (j+us.length) R.size=true) (hn:l.take j++us++l.drop (j+us.length)=l') (hx':R.cells c l' x'):
  ∃c',(execOp ρ o).run P c.w= .ok .skip c'.w∧c.le c'∧∃vs',Own c' G (F.set k (es true R v E vs' xs'))∧OA R c' v vs' xs':=by
 have hl:=bD hl;unfold lW at hset;split at hset
 ·rename_i hi
  cases hset;have hbk:Go.Lt.blk v=some (sb v):=by
   rcases h.2.1 with ⟨_,rfl⟩ | ⟨g,cap,rfl,_⟩
   ·exfalso; simp at hi; omega
   ·rfl
  have hp:=h.1;have hxl:=h.2.2.len hp;have hms:=gA (s:=R.size) (show i.toNat < xs.length by omega);obtain ⟨c',r1,r2,r3⟩:=stE (P:=P) (T:=T) (o:=i.toNat * R.size+j) (O.on k hk) hbk rfl hv hs h1 (by simp only [es]; omega);have hlen:(vs.take (i.toNat * R.size+j)++us++vs.drop (i.toNat * R.size+j+us.length)).length=vs.length:=by
   simp only [ac,aC,fq]; omega
  refine ⟨c',by rw [hx]; exact rs r1,r2.le,_,O.set k hk r2 (fun b hb=>by rw [hb]; exact hbk) (e':=es true R v E (vs.take (i.toNat * R.size+j)++us++vs.drop (i.toNat * R.size+j+us.length)) (xs.set i.toNat x')) r3 (fun b h=> .inl h),hp,?_,fun q y hy=>?_⟩
  ·rcases h.2.1 with ⟨_,rfl⟩ | ⟨g,cap,h2,h3,h4,h5⟩
   ·exfalso; simp at hi; omega
   ·exact .inr ⟨g,cap,by rw [gE]; exact h2,by rw [gE]; exact h3,h4,by rw [hlen]; exact h5⟩
  ·by_cases hq:q=i.toNat
   ·subst hq;rw [dq (by omega)] at hy;cases hy;have:((vs.take (i.toNat * R.size+j)++us++vs.drop (i.toNat * R.size+j+us.length)).drop (i.toNat * R.size)).take R.size=l':=by
     rw [←hn,←hm];rw [aA,qZ (by rw [aC]; omega),nz];have e1:i.toNat * R.size+j - i.toNat * R.size=j:=by omega
     rw [e1,jJ,eR (by omega),aA,nz,jM,xm,xm];have h6:((vs.drop (i.toNat * R.size)).take j).length=j:=by rw [aC,fq]; omega
     rw [h6,bw (by omega),bw (l:=us) (by omega)]
     congr 2
     rw [Nat.add_assoc]
     congr 1
     omega
    rw [this];exact R.mono r2.le hx'
   ·rw [dN (xj hq)] at hy;have hold:=h.2.2 q y hy;have hqm:=gA (s:=R.size) (List.getElem?_eq_some_iff.1 hy).1;have:((vs.take (i.toNat * R.size+j)++us++vs.drop (i.toNat * R.size+j+us.length)).drop (q * R.size)).take R.size=(vs.drop (q * R.size)).take R.size:=by
     rcases aG q i.toNat with hlt | hge
     ·have:=gA (s:=R.size) hlt;rw [aA,fX (by rw [aC]; omega),nz,jJ,eR (by omega)]
     ·have:=gA (s:=R.size) (show i.toNat < q by omega);have h7:(vs.take (i.toNat * R.size+j)++us).length=i.toNat * R.size+j+us.length:=by rw [ac,aC]; omega
      rw [show q * R.size=(vs.take (i.toNat * R.size+j)++us).length+(q * R.size - (i.toNat * R.size+j+us.length)) by omega,←jM,iq,jM]
      congr 2
      omega
    rw [this];exact R.mono r2.le hold
 ·cases hset
theorem Own.stW {T E:TypeId} {v:Value} {vs:List Value} {xs xs':List α} {i:Int} {x':α} {us:List Value} {u:Value} (k:Nat) (O:Own c G F) (hx:execOp ρ o=(do Instr.storeAt T (.pointer (some ⟨sb v,i.toNat * R.size,none⟩)) u; pure Next.skip:Sem Next))
  (hk:F[k]? = some (es true R v E vs xs)) (h:OA R c v vs xs) (hset:lW xs i x'=some xs') (hv:u.cells.toList=us) (hs:(P.info? T).map (·.size)=some us.length) (h1:gG us) (hl:us.length=R.size) (hx':R.cells c us x'):
  ∃c',(execOp ρ o).run P c.w= .ok .skip c'.w∧c.le c'∧∃vs',Own c' G (F.set k (es true R v E vs' xs'))∧OA R c' v vs' xs':=by
 have hi:0≤i∧i < xs.length:=by
  unfold lW at hset;split at hset
  ·assumption
  ·cases hset
 have hc:=h.2.2 i.toNat xs[i.toNat] (aq (by omega));have hlen:=R.len hc;refine Own.stO (x:=xs[i.toNat]) (j:=0) (us:=us) (l':=us) k O (by rw [hx]; rfl) hk h hset rfl hv hs h1 ?_ ?_ hx'
 ·rw [gk,hl]; exact mb (aB _)
 ·rw [nx,cR,gk,lL (by rw [hlen,hl]; exact aB _),cS]
theorem Own.app {E t ty:TypeId} {v u:Value} {vs:List Value} {xs ys zs:List α} {z:Value} {by_:Nat} {m:Bool} (k:Nat) (O:Own c G F) (hk:F[k]? = some (es m R v E vs xs)) (h:OA R c v vs xs) (hS:Sl R c u ys) (happ:app xs ys=some zs)
  (hT:P.underlying t=some (.slice E)) (hi:(P.info? E).map (fun i=>(i.zero,i.size,i.bytes))=some (some z,R.size,by_)) (hz:z.cells.size=R.size) (hby:Nat.ble by_ 128=true)
  (hx:execOp ρ o=(do pure (Next.value (←Builtin.append_ #[t,t] ty #[v,u])):Sem Next)):
  ∃v' c',(execOp ρ o).run P c.w= .ok (.value v') c'.w∧c.le c'∧∃vs',Own c' G (F.set k (es m R v' E vs' zs))∧OA R c' v' vs' zs:=by
 obtain ⟨v',c',h1,h2,h3⟩:=rH (P:=P) (t:=t) (ty:=ty) k O hk h hS happ hT hi hz hby;exact ⟨v',c',rx hx h1,h2,h3⟩
def oW (R:Rp α) (c:Cx):List (List Value)→List α→Prop
 | [],[]=>True
 | l :: ls,x :: xs=>R.cells c l x∧oW R c ls xs
 | _,_=>False
theorem oW.len:∀{ls:List (List Value)} {xs:List α},oW R c ls xs→ls.flatten.length=xs.length * R.size
 | [],[],_=>by simp
 | l :: ls,x :: xs,h=>by
  simp only [km,ac,aj,R.len h.1,oW.len h.2,eX,nv];omega
 | [],_ :: _,h=>h.elim
 | _ :: _,[],h=>h.elim
theorem oW.get:∀{ls:List (List Value)} {xs:List α},oW R c ls xs→AR R c ls.flatten xs
 | [],[],_=>fun i x h=>by simp at h
 | l :: ls,x :: xs,h=>fun i y hy=>by
  cases i with
  | zero=>
   simp only [au,aQ] at hy;subst hy;rw [pQ,tv,km,←R.len h.1,tu];exact h.1
  | succ i=>
   simp only [fr] at hy;rw [km,eX,nv,Nat.add_comm (i * R.size),←R.len h.1,←jM,iq,R.len h.1];exact oW.get h.2 i y hy
 | [],_ :: _,h=>h.elim
 | _ :: _,[],h=>h.elim
theorem Own.newS (m:Bool) {E:TypeId} {vs:List Value} {xs:List α} {cap:Nat} (O:Own c G F) (hp:0 < R.size) (hA:AR R c vs xs) (hc:xs.length≤cap) (hm:cap≤maxLen) (hcs:cap * R.size≤vs.length)
  (hr:(execOp ρ o).run P c.w= .ok (.value (.slice (some ⟨c.w.heap.size,0,none⟩) xs.length cap)) (c.w.alloc (.cells vs.toArray E))):
  ∃v c',(execOp ρ o).run P c.w= .ok (.value v) c'.w∧c.le c'∧∃vs,Own c' G (es m R v E vs xs :: F)∧OA R c' v vs xs:=by
 obtain ⟨c',h1,h2,h3,_,h4⟩:=Cx.new c vs E (cond m 0 (xs.length * R.size));refine ⟨_,c',by rw [h1]; exact hr,h2.le,vs,O.cons h2 (fun _=>id) (fun b hb=>?_) (fun b hb=>?_),hp,.inr ⟨_,_,rfl,hc,hm,hcs⟩,hA.mono h2.le⟩
 ·simp only [es,Go.Lt.blk,aQ] at hb; subst hb; exact ⟨h3,h4⟩
 ·simp only [es,Go.Lt.blk,aQ] at hb; omega
theorem Own.sl (m:Bool) {E:TypeId} {ls:List (List Value)} {vs:List Value} {xs:List α} (O:Own c G F) (hp:0 < R.size) (hv:ls.flatten=vs) (hR:oW R c ls xs) (hm:Nat.ble xs.length 4294967296=true)
  (hr:(execOp ρ o).run P c.w= .ok (.value (.slice (some ⟨c.w.heap.size,0,none⟩) xs.length xs.length)) (c.w.alloc (.cells vs.toArray E))):
  ∃v c',(execOp ρ o).run P c.w= .ok (.value v) c'.w∧c.le c'∧∃vs,Own c' G (es m R v E vs xs :: F)∧OA R c' v vs xs:=by
 subst hv;have hm:=bD hm;exact Own.newS m O hp hR.get (aB _) (by unfold maxLen; omega) (by rw [hR.len]; exact aB _) hr
theorem Sl.cut {xs:List α} {l h m:Nat} {a:Option Addr} {cap:Nat} (hS:Sl R c (.slice a xs.length cap) xs) (h1:l≤h) (h2:h≤xs.length) (h3:h≤m) (h4:m≤cap):
  Sl R c (.slice (if m=l then a else a.map (·.add (l * R.size))) (h - l) (m - l)) ((xs.drop l).take (h - l)):=by
 obtain ⟨a',cap',hv,h5,h6,h7⟩:=hS;cases hv;have hlen:((xs.drop l).take (h - l)).length=h - l:=by rw [aC,fq]; omega
 refine ⟨_,m - l,by rw [hlen],by rw [hlen]; omega,by omega,fun i x hx=>?_⟩;rw [eC] at hx;split at hx
 ·rename_i hi
  rw [jK] at hx;obtain ⟨b,off,q,rfl,hq,hc⟩:=h7 _ _ hx;have hne:m≠l:=by omega
  refine ⟨b,off+l * R.size,q,?_,hq,fun j u hu=>?_⟩
  ·rw [ag hne]; simp [gn]
  ·have:=hc j u hu
   rwa [show off+(l+i) * R.size+j=off+l * R.size+i * R.size+j by rw [eX]; omega] at this
 ·cases hx
theorem uI {xs zs:List α} {i j:Int} (h:slc xs i j=some zs):0≤i∧i≤j∧j≤xs.length∧zs=(xs.drop i.toNat).take (j - i).toNat:=by
 unfold slc at h;split at h
 ·rename_i hh
  exact ⟨hh.1,hh.2.1,hh.2.2,by simpa using h.symm⟩
 ·cases h
theorem RE.cs {S T:TypeId} {v:Value} {e:Er} (h:RE S T c v e):(v= .nilIface∧e.isNil=true)∨(∃a,v= .iface S (.pointer (some a))∧e.isNil=false)∨∃b,v= .iface T (.pointer (some ⟨b,0,none⟩))∧e.isNil=false:=by
 cases e with
 | nil=>exact .inl ⟨h,rfl⟩
 | sent g=>obtain ⟨b,h,_⟩:=h; exact .inr (.inl ⟨b,h,rfl⟩)
 | fault i e=>obtain ⟨b,u,h,_⟩:=h; exact .inr (.inr ⟨b,h,rfl⟩)
theorem RE.cs3 {S T:TypeId} {v:Value} {e:Er} (h:RE S T c v e):v= .nilIface∨∃t a,v= .iface t (.pointer a):=by
 rcases h.cs with ⟨h,_⟩ | ⟨b,h,_⟩ | ⟨b,h,_⟩
 ·exact .inl h
 ·exact .inr ⟨_,_,h⟩
 ·exact .inr ⟨_,_,h⟩
def qt (G G':Gm):Prop:=∀g k,G g k≠ []→G' g k=G g k
theorem Own.stGB {T:TypeId} {e:En} {b j:Nat} {us nw:List Value} {v:Value} {g k:Nat} {E:List En} (r:Nat) (O:Own c (fK G g k E) F) (hx:execOp ρ o=(do Instr.storeAt T (.pointer (some ⟨b,j,none⟩)) v; pure Next.skip:Sem Next)) (hr:E[r]? = some e) (hb:Go.Lt.blk e.v=some b) (hlim:e.lim=0)
  (hv:v.cells.toList=us) (hs:(P.info? T).map (·.size)=some us.length) (h1:gG us) (hl:Nat.ble (j+us.length) e.vs.length=true) (hn:e.vs.take j++us++e.vs.drop (j+us.length)=nw):
  ∃c',(execOp ρ o).run P c.w= .ok .skip c'.w∧c.le c'∧Own c' (fK G g k (E.set r ⟨e.v,e.T,nw,0⟩)) F:=by
 obtain ⟨c',h1,h2,h3⟩:=Own.stG (P:=P) r O hx (cQ _ _ _ _) hr hb hlim hv hs h1 hl hn;rw [nN] at h3;exact ⟨c',h1,h2,h3⟩
def rW (n:Nat) (ks:List Nat):Bool:=ks.all (fun i=>Nat.blt i n) && decide ks.Nodup
theorem Own.selD (n:Nat) (ks:List Nat) (O:Own c G F) (hks:rW n ks=true) (hn:Nat.ble n F.length=true):Own c G (ks.map (fun i=>F.getD i lY)++F.drop n):=by
 simp only [rW,ax,lq,aa] at hks;have hn:=bD hn;refine Own.sel (L:=F.take n) ks (by rw [List.take_append_drop]; exact O) hks.2 ?_;rw [fE];refine ff fun i hi=>?_;have h1:i < n:=by have:=hks.1 i hi; simpa [Nat.blt_eq] using this
 simp only [Function.comp,eC,ai h1,jL];rw [aq (by omega)];rfl
def dvg (n:Int):Option Unit:=if n=0 then none else some ()
theorem pB {n:Int} {u:Unit} (h:dvg n=some u):n≠0:=by
 intro e;simp [dvg,e] at h
theorem fJ {k:IntKind} {a b:Int} {u:Unit} (h:dvg b=some u) (hx:execOp ρ o=(do pure (Next.value (←Op.intDiv .quo k a b)):Sem Next)) (w:World):(execOp ρ o).run P w= .ok (.value (.int k (k.wrap (a.tdiv b)))) w:=by
 rw [hx];exact rv (by simp [Op.intDiv,pB h])
theorem de {k:IntKind} {a b:Int} {u:Unit} (h:dvg b=some u) (hx:execOp ρ o=(do pure (Next.value (←Op.intDiv .rem k a b)):Sem Next)) (w:World):(execOp ρ o).run P w= .ok (.value (.int k (a.tmod b))) w:=by
 rw [hx];exact rv (by simp [Op.intDiv,pB h])
end
section
variable {P:Program} {c:Cx} {n:Fr} {e:Nat→Value} {fn:Func} {R:Ending→World→Prop}
theorem wF {t b:Nat} {T U:TypeId} {vs:List Value} (hr:fn.results= #[.cell t T]) (hv:ev n e (.tmp t)= .pointer (some ⟨b,0,none⟩))
  (hT:(P.underlying T).map (fun d=>match d with | .struct _ | .array _ _=>true | _=>false)=some true) (hs:(P.info? T).map (·.size)=some vs.length) (h:c.w.heap[b]? = some (.cells vs.toArray U (0,0)))
  (hR:R (.returned (.agg vs.toArray)) c.w):iC P fn n R .ret e c.w:=by
 have hl:=jQ (P:=P) (w:=c.w) (b:=b) (o:=0) (l:=vs) hT hs (fun j u hu=>by simp [World.cell?,h,hu]);refine ⟨.agg vs.toArray,?_,hR⟩;have ht:=ft n e t;rw [hv,co] at ht;simp [results,hr,ht,asAddr,hl]
theorem nQ {t u b:Nat} {T U:TypeId} {vs:List Value} {v:Value} (hr:fn.results= #[.cell t T,.tmp u]) (hv:ev n e (.tmp t)= .pointer (some ⟨b,0,none⟩)) (hu:ev n e (.tmp u)=v)
  (hT:(P.underlying T).map (fun d=>match d with | .struct _ | .array _ _=>true | _=>false)=some true) (hs:(P.info? T).map (·.size)=some vs.length) (h:c.w.heap[b]? = some (.cells vs.toArray U (0,0)))
  (hR:R (.returned (.tuple #[.agg vs.toArray,v])) c.w):iC P fn n R .ret e c.w:=by
 have hl:=jQ (P:=P) (w:=c.w) (b:=b) (o:=0) (l:=vs) hT hs (fun j u hu=>by simp [World.cell?,h,hu]);refine ⟨.tuple #[.agg vs.toArray,v],?_,hR⟩;have ht:=ft n e t;have hu':=ft n e u;rw [hv,co] at ht;rw [hu,co] at hu';simp [results,hr,ht,hu',asAddr,hl,Result.andThen]
theorem wG {w:World} {t u s:Nat} {v v' v'':Value} (hr:fn.results= #[.tmp t,.tmp u,.tmp s]) (hv:ev n e (.tmp t)=v) (hu:ev n e (.tmp u)=v') (hs:ev n e (.tmp s)=v'')
  (h:R (.returned (.tuple #[v,v',v''])) w):iC P fn n R .ret e w:=by
 refine ⟨.tuple #[v,v',v''],?_,h⟩;have h1:=ft n e t;have h2:=ft n e u;have h3:=ft n e s;rw [hv,co] at h1;rw [hu,co] at h2;rw [hs,co] at h3;simp [results,hr,h1,h2,h3]
end
inductive EqP (P:Program) (xs ys:Array Value):List Field→Bool→Prop
 | nil:EqP P xs ys [] true
 | int {f:Field} {fs:List Field} {k:IntKind} {a b:Int} {r:Bool} (hn:decide (f.name= "_")=false) (hT:P.underlying f.type=some (.int k)) (hx:xs[f.offset]? = some (.int k a)) (hy:ys[f.offset]? = some (.int k b)) (h:EqP P xs ys fs r):EqP P xs ys (f :: fs) ((a==b) && r)
 | bool {f:Field} {fs:List Field} {a b:Bool} {r:Bool} (hn:decide (f.name= "_")=false) (hT:P.underlying f.type=some .bool) (hx:xs[f.offset]? = some (.bool a)) (hy:ys[f.offset]? = some (.bool b)) (h:EqP P xs ys fs r):EqP P xs ys (f :: fs) ((a==b) && r)
theorem iQ {P:Program} {T:TypeId} {xs:Array Value} {o:Nat} {v:Value} (w:World) (hT:(P.underlying T).map (fun d=>match d with | .struct _ | .array _ _=>true | _=>false)=some false) (h:xs[o]? = some v):(part T xs o).run P w= .ok v w:=by
 obtain ⟨d,hd,hx⟩:=Option.map_eq_some_iff.1 hT;have hi:(isAgg T).run P w= .ok false w:=by
  have:=di (P:=P) (w:=w) hd;simp only [isAgg,eo,this,kl]
  cases d <;> simp_all
 simp [part,hi,h,Result.andThen]
theorem EqP.run {P:Program} {xs ys:Array Value} {fs:List Field} {r:Bool} (h:EqP P xs ys fs r) (d:Nat) (w:World):(Op.eqFields (d+1) xs ys fs).run P w= .ok r w:=by
 induction h with
 | nil=>simp [Op.eqFields]
 | @int f fs k a b r hn hT hx hy _ ih=>
  have h1:=iQ w (T:=f.type) (by rw [hT]; rfl) hx;have h2:=iQ w (T:=f.type) (by rw [hT]; rfl) hy;have h3:=run_equalIn_int w d f.type k k a b hT;simp only [Op.eqFields,ai (wK hn),eo,h1,h2,h3,kl];by_cases hab:a=b <;> simp [hab,ih]
 | @bool f fs a b r hn hT hx hy _ ih=>
  have h1:=iQ w (T:=f.type) (by rw [hT]; rfl) hx;have h2:=iQ w (T:=f.type) (by rw [hT]; rfl) hy;have h3:=run_equalIn_bool' w d f.type a b hT;simp only [Op.eqFields,ai (wK hn),eo,h1,h2,h3,kl];by_cases hab:a=b <;> simp [hab,ih]
section
variable {P:Program} {ρ:Operand→Value} {o:Oper} {T U:TypeId} {xs ys:Array Value} {fs:Array Field} {r:Bool}
theorem pe (ht:P.underlying T=some (.struct fs)) (hp:P.stoodInHeld T=false) (hm:P.eqGuardType P.depth T=false) (h:EqP P xs ys fs.toList r)
  (hx:execOp ρ o=(do pure (Next.value (←(do eqGuard .eql T (.const .nilIface) (.const .nilIface) (.agg xs) (.agg ys); binOp .eql T (.agg xs) (.agg ys)))):Sem Next)) (w:World):(execOp ρ o).run P w= .ok (.value (.bool r)) w:=by
 have hf:P.fieldsOf T=fs:=by simp [Program.fieldsOf,ht]
 rw [hx];refine rv ?_;simp only [eo,run_eqGuard_agg w .eql T (.const .nilIface) (.const .nilIface) xs ys hm,kl,run_eql_struct,run_equalIn_agg w 9999 T xs ys (by rw [hf]; exact ht) hp];rw [hf,h.run];rfl
end
end Go.Lt
namespace Go.Lt
abbrev T16:=Int×Int×Int×Int×Int×Int×Int×Int×Int×Int×Int×Int×Int×Int×Int×Int
def a16 (t:T16):List Int:=[t.1,t.2.1,t.2.2.1,t.2.2.2.1,t.2.2.2.2.1,t.2.2.2.2.2.1,t.2.2.2.2.2.2.1,t.2.2.2.2.2.2.2.1,t.2.2.2.2.2.2.2.2.1,t.2.2.2.2.2.2.2.2.2.1,t.2.2.2.2.2.2.2.2.2.2.1,t.2.2.2.2.2.2.2.2.2.2.2.1,t.2.2.2.2.2.2.2.2.2.2.2.2.1,t.2.2.2.2.2.2.2.2.2.2.2.2.2.1,t.2.2.2.2.2.2.2.2.2.2.2.2.2.2.1,t.2.2.2.2.2.2.2.2.2.2.2.2.2.2.2]
def l16 (l:List Int):T16:=(l.getD 0 0,l.getD 1 0,l.getD 2 0,l.getD 3 0,l.getD 4 0,l.getD 5 0,l.getD 6 0,l.getD 7 0,l.getD 8 0,l.getD 9 0,l.getD 10 0,l.getD 11 0,l.getD 12 0,l.getD 13 0,l.getD 14 0,l.getD 15 0)
section
variable {P:Program} {c c':Cx} {G:Gm} {F:List En} {ρ:Operand→Value} {o:Oper}
theorem pW {T E:TypeId} {n sz b j:Nat} {k:IntKind} {i:Int} (hT:P.underlying T=some (.array n E)) (hE:(P.info? E).map (·.size)=some sz) (h0:0≤i) (h1:i < (n:Int)) (w:World):
  (Instr.indexAt T (.pointer (some ⟨b,j,none⟩)) (.int k i)).run P w= .ok (.pointer (some ⟨b,j+i.toNat * sz,none⟩)) w:=by
 obtain ⟨ti,hti,hsz⟩:=Option.map_eq_some_iff.1 hE;simp [Instr.indexAt,asIntOf,Instr.sureAddr,di hT,h0,h1,sizeOf,typeInfo,hti,hsz,gn]
def mY (k:IntKind) (a b:Int):Int:=k.wrap ((BitVec.ofInt k.bits a &&& BitVec.ofInt k.bits b).toNat:Int)
def wd (k:IntKind) (a b:Int):Int:=k.wrap ((BitVec.ofInt k.bits a ||| BitVec.ofInt k.bits b).toNat:Int)
def shn (n:Int):Option Nat:=if n < 0 then none else some n.toNat
theorem pc {n:Int} {m:Nat} (h:shn n=some m):¬n < 0∧n.toNat=m:=by
 unfold shn at h;split at h
 ·cases h
 ·rename_i hn; exact ⟨hn,by simpa using h⟩
theorem qB {k k':IntKind} {a b:Int} {m:Nat} (h:shn b=some m) (hx:execOp ρ o=(do pure (Next.value (←Op.shift .shl k a k' b)):Sem Next)) (w:World):(execOp ρ o).run P w= .ok (.value (.int k (k.wrap (a * 2 ^ (min m k.bits))))) w:=by
 obtain ⟨h1,h2⟩:=pc h;rw [hx];exact rv (by simp [Op.shift,h1,h2])
theorem tU {k k':IntKind} {a b:Int} {m:Nat} (h:shn b=some m) (hx:execOp ρ o=(do pure (Next.value (←Op.shift .shr k a k' b)):Sem Next)) (w:World):(execOp ρ o).run P w= .ok (.value (.int k (a.fdiv (2 ^ (min m k.bits))))) w:=by
 obtain ⟨h1,h2⟩:=pc h;rw [hx];exact rv (by simp [Op.shift,h1,h2])
end
end Go.Lt
namespace Go.Lt
section
variable {P:Program} {c c':Cx} {G:Gm} {F:List En} {ρ:Operand→Value} {o:Oper}
def gg (s:ByteArray) (i:Int):Option Int:=if 0≤i then (s[i.toNat]?).map (fun b=>(b.toNat:Int)) else none
theorem cp {T:TypeId} {s:ByteArray} {k:IntKind} {i x:Int} (hT:P.underlying T=some .string) (h:gg s i=some x) (w:World):(Instr.index T (.string s) (.int k i)).run P w= .ok (.int .u8 x) w:=by
 unfold gg at h;split at h
 ·rename_i h0
  obtain ⟨b,hb,rfl⟩:=Option.map_eq_some_iff.1 h;simp [Instr.index,asIntOf,di hT,h0,hb]
 ·cases h
end
section
variable {P:Program} {c:Cx} {n:Fr} {e:Nat→Value} {fn:Func} {R:Ending→World→Prop}
end
section
variable {D:List Nat} {K:Cx→Prop} {P:Program} {l:List Oper} {n:Fr} {Q:Exit→(Nat→Value)→World→Prop} {fuel:Nat} {li:List Bool} {e:Nat→Value} {c:Cx} {o:Oper}
theorem Go1.late (i:Nat) (v:Value) (hi:l.toArray[i]? = some o) (hsl:cU n l=true) (hw:ec l.toArray n e o=true) (hr:(execOp (ev n e) o).run P c.w= .ok (.value v) c.w)
  (hk:D.contains i=true) (h:AC D K P l n Q fuel (li.set i true) (upO e o.dst v) c):Go1 D K P l n Q fuel li e c i:=Go1.val hi hsl hw hr (Cx.le.refl c) (.inl hk) h
end
end Go.Lt
namespace Go.Lt
theorem pt {c c':Cx} (k:c.le c':=by repeat (first | assumption | exact Cx.le.refl _ | refine Cx.le.trans ?_ (by assumption))):c.le c':=k
section
variable {c c':Cx} {α:Type} {R:Rp α}
theorem Sl.m {v:Value} {xs:List α} (h:Sl R c v xs) (k:c.le c':=by repeat (first | assumption | refine Cx.le.trans ?_ (by assumption))):Sl R c' v xs:=h.mono k
theorem OA.m {v:Value} {vs:List Value} {xs:List α} (h:OA R c v vs xs) (k:c.le c':=by repeat (first | assumption | refine Cx.le.trans ?_ (by assumption))):OA R c' v vs xs:=h.mono k
theorem Pt.m {g:Nat} {v:Value} {p:Option Nat} (h:Pt g c v p) (k:c.le c':=by repeat (first | assumption | refine Cx.le.trans ?_ (by assumption))):Pt g c' v p:=h.mono k
theorem RE.m {S T:TypeId} {v:Value} {e:Er} (h:RE S T c v e) (k:c.le c':=by repeat (first | assumption | refine Cx.le.trans ?_ (by assumption))):RE S T c' v e:=h.mono k
theorem mm {b o:Nat} {L:List Value} (h:∀j u,L[j]? = some u→Im c b (o+j) u) (k:c.le c':=by repeat (first | assumption | refine Cx.le.trans ?_ (by assumption))):∀j u,L[j]? = some u→Im c' b (o+j) u:=fun j u hu=>(h j u hu).mono k
theorem tm {g k b:Nat} (h:c.t g k=some b) (l:c.le c':=by repeat (first | assumption | refine Cx.le.trans ?_ (by assumption))):c'.t g k=some b:=l.t _ _ _ h
end
theorem pw {e:Nat→Value}:∀{l:List (Nat×Value)},l.map (fun x=>e x.1)=l.map (fun x=>x.2)→holds e l
 | [],_=>trivial
 | (t,v) :: l,h=>by
  simp only [iH,xr] at h;exact ⟨h.1,pw h.2⟩
theorem us {e:Nat→Value} {l:List (Nat×Value)} (h:l.map (fun x=>e x.1)=l.map (fun x=>x.2):=by kernel_rfl):e=ups e l:=oY (pw h)
abbrev Jn (c0:Cx) (q:Cx→List (Nat×Value)→Prop) (e:Nat→Value) (w:World):Prop:=∃(c:Cx) (g:Nat→Value) (l:List (Nat×Value)),w=c.w∧c0.le c∧e=ups g l∧q c l
theorem jn {c0:Cx} {q:Cx→List (Nat×Value)→Prop} {e:Nat→Value} {l:List (Nat×Value)} (c:Cx) (h:q c l) (k:c0.le c:=by repeat (first | assumption | exact Cx.le.refl _ | refine Cx.le.trans ?_ (by assumption))) (u:l.map (fun x=>e x.1)=l.map (fun x=>x.2):=by kernel_rfl):Jn c0 q e c.w:=⟨c,e,l,rfl,k,us u,h⟩
theorem qq {c0:Cx} {X:Cx→Value→Prop} {v:Value} (c:Cx) (h:X c v) (k:c0.le c:=by repeat (first | assumption | exact Cx.le.refl _ | refine Cx.le.trans ?_ (by assumption))):aX c0 X (.returned v) c.w:=⟨v,c,rfl,rfl,k,h⟩
theorem bn {α β:Type} {x:Option α} {f:α→Option β} {r:β} {C:Prop} (H:x.bind f=some r) (k:∀a,x=some a→f a=some r→C):C:=by
 obtain ⟨a,h1,h2⟩:=bs H;exact k a h1 h2
theorem si {α:Type} {a b:α} (h:some a=some b):a=b:=ao h
theorem bo (b:Bool):b=true∨b=false:=ut b
theorem Own.sD {c:Cx} {G:Gm} {F:List En} (O:Own c G F) (n:Nat) (ks:List Nat) (h1:rW n ks=true:=by kernel_rfl) (h2:Nat.ble n F.length=true:=by kernel_rfl):Own c G (ks.map (fun i=>F.getD i lY)++F.drop n):=O.selD n ks h1 h2
section
variable {P:Program} {c c':Cx} {G:Gm} {F:List En} {α:Type} {R:Rp α} {ρ:Operand→Value} {o:Oper} {fn:Func}
variable {n:Fr} {ops:Array Oper} {Q:Exit→(Nat→Value)→World→Prop} {rest:List Oper} {e:Nat→Value} {D:List Nat} {K:Cx→Prop} {l:List Oper} {fuel:Nat} {li:List Bool} {a b:Code} {w:World}
def val:Result Next→Value
 | .ok (.value v) _=>v
 | _=>undef
theorem vx {s:Sem Value} {v:Value} (h0:s.run P w= .ok v w) (h:WL P ops n Q rest (upO e o.dst v) w) (hg:o.guard=none:=by exact rfl) (hx:execOp (ev n e) o=(do pure (Next.value (←s)):Sem Next):=by kernel_rfl):WL P ops n Q (o :: rest) e w:=WL.val0 hg (rx hx h0) h
theorem vr (v:Value) (hr:(execOp (ev n e) o).run P w= .ok (.value v) w) (h:WL P ops n Q rest (upO e o.dst v) w) (hg:o.guard=none:=by exact rfl):WL P ops n Q (o :: rest) e w:=WL.val0 hg hr h
theorem cl {f:FuncId} {args:Array Value} {X:Cx→Value→Prop} (hc:Calls P f args c.w (aX c X)) (h:∀v c',c.le c'→X c' v→WL P ops n Q rest (upO e o.dst v) c'.w) (hg:o.guard=none:=by exact rfl) (hr:(execOp (ev n e) o).run P c.w= .ok (.enter f args) c.w:=by kernel_rfl):WL P ops n Q (o :: rest) e c.w:=WL.callP hg hr hc h
theorem me {X:Value→Cx→Prop} (hr:∃v c',(execOp (ev n e) o).run P c.w= .ok (.value v) c'.w∧c.le c'∧X v c') (h:∀v c',c.le c'→X v c'→WL P ops n Q rest (upO e o.dst v) c'.w) (hg:o.guard=none:=by exact rfl):WL P ops n Q (o :: rest) e c.w:=WL.mem hg hr h
theorem md {X:Cx→Prop} (hr:∃c',(execOp (ev n e) o).run P c.w= .ok .skip c'.w∧c.le c'∧X c') (h:∀c',c.le c'→X c'→WL P ops n Q rest (upO e o.dst undef) c'.w) (hg:o.guard=none:=by exact rfl):WL P ops n Q (o :: rest) e c.w:=WL.memD hg hr h
theorem cn {α:Type} {t:Bool} {x y:Option α} {r:α} {cd:Operand} (H:(if t=true then x else y)=some r) (h1:t=true→x=some r→W P n a Q e w) (h2:t=false→y=some r→W P n b Q e w) (hc:ev n e cd= .bool t:=by kernel_rfl):W P n (.cond cd a b) Q e w:=
 W.cond hc (fun h=>h1 h (it h H)) (fun h=>h2 h (ie h H))
theorem lp {σ τ:Type} {step:σ→Option (σ ⊕ τ)} {fuel:Nat} {s:σ} {t:τ} (H:ed fuel step s=some t) (F:σ→(Nat→Value)→World→Prop) (Out:τ→Exit→(Nat→Value)→World→Prop)
  (hb:∀s x e w,step s=some x→F s e w→W P n a (lpQ F Out x) e w) (h0:F s e w) (hQ:∀x e w,Out t x e w→Q x e w):W P n (.loop a) Q e w:=W.loop F Out hb H h0 hQ
theorem en {P:Program} {f:FuncId} {fn:Func} {code:Code} {n:Nat} {l:List Value} {w:World} {R:Ending→World→Prop} (hf:P.funcs[f]? = some fn) (hb:fn.body=some code) (hn:fn.ntmps=n) (h:W P ⟨n,[],none⟩ code (iC P fn ⟨n,[],none⟩ R) (ar l) w) (hl:Nat.ble l.length n=true:=by rfl):Calls P f l.toArray w R:=enter hf hb hn hl h
theorem tx (i:Nat) {s:Sem Value} {v:Value} (h0:∀c',c.le c'→s.run P c'.w= .ok v c'.w) (h:AC D K P l n Q fuel (li.set i true) (upO e o.dst v) c) (hi:l.toArray[i]? = some o:=by exact rfl) (ht:tk l n li i=true:=by kernel_rfl) (hw:ec l.toArray n e o=true:=by kernel_rfl)
  (hx:execOp (ev n e) o=(do pure (Next.value (←s)):Sem Next):=by kernel_rfl):AC D K P l n Q (fuel+1) li e c:=AC.take i v hi ht hw (fun c' k=>rx hx (h0 c' k)) h
theorem tkx (i:Nat) {s:Sem Value} {v:Value} (p:K c) (h0:∀c',c.le c'→K c'→s.run P c'.w= .ok v c'.w) (h:AC D K P l n Q fuel (li.set i true) (upO e o.dst v) c) (hi:l.toArray[i]? = some o:=by exact rfl) (ht:tk l n li i=true:=by kernel_rfl) (hB:okB l.toArray li i D=true:=by kernel_rfl)
  (hw:ec l.toArray n e o=true:=by kernel_rfl) (hx:execOp (ev n e) o=(do pure (Next.value (←s)):Sem Next):=by kernel_rfl):AC D K P l n Q (fuel+1) li e c:=AC.takeK i v p hi ht hB hw (fun c' k q=>rx hx (h0 c' k q)) h
theorem tp (i:Nat) (h:AC D K P l n Q fuel (li.set i true) (upO e o.dst undef) c) (hi:l.toArray[i]? = some o:=by exact rfl) (ht:tk l n li i=true:=by kernel_rfl) (hw:ec l.toArray n e o=false:=by kernel_rfl):AC D K P l n Q (fuel+1) li e c:=AC.pass i hi ht hw h
theorem dn (h:Q .normal e c.w) (hr:Region.ready .any l.toArray li.toArray= []:=by kernel_rfl):AC D K P l n Q fuel li e c:=AC.done hr h
theorem o1 (i:Nat) (h:Go1 D K P l n Q fuel li e c i) (hr:Region.ready .any l.toArray li.toArray= [i]:=by kernel_rfl):AC D K P l n Q (fuel+1) li e c:=AC.one i hr h
theorem gm (i:Nat) {X:Value→Cx→Prop} (hr:∃v c',(execOp (ev n e) o).run P c.w= .ok (.value v) c'.w∧c.le c'∧X v c') (h:∀v c',c.le c'→X v c'→(D.contains i=true∨K c')∧AC D K P l n Q fuel (li.set i true) (upO e o.dst v) c')
  (hi:l.toArray[i]? = some o:=by exact rfl) (hsl:cU n l=true:=by kernel_rfl) (hw:ec l.toArray n e o=true:=by kernel_rfl):Go1 D K P l n Q fuel li e c i:=Go1.mem i hi hsl hw hr h
theorem gD (i:Nat) {X:Cx→Prop} (hr:∃c',(execOp (ev n e) o).run P c.w= .ok .skip c'.w∧c.le c'∧X c') (h:∀c',c.le c'→X c'→(D.contains i=true∨K c')∧AC D K P l n Q fuel (li.set i true) (upO e o.dst undef) c')
  (hi:l.toArray[i]? = some o:=by exact rfl) (hsl:cU n l=true:=by kernel_rfl) (hw:ec l.toArray n e o=true:=by kernel_rfl):Go1 D K P l n Q fuel li e c i:=Go1.memD i hi hsl hw hr h
theorem gc (i:Nat) {f:FuncId} {args:Array Value} {X:Cx→Value→Prop} (hc:Calls P f args c.w (aX c X)) (h:∀v c',c.le c'→X c' v→(D.contains i=true∨K c')∧AC D K P l n Q fuel (li.set i true) (upO e o.dst v) c')
  (hi:l.toArray[i]? = some o:=by exact rfl) (hsl:cU n l=true:=by kernel_rfl) (hw:ec l.toArray n e o=true:=by kernel_rfl) (hr:(execOp (ev n e) o).run P c.w= .ok (.enter f args) c.w:=by kernel_rfl):Go1 D K P l n Q fuel li e c i:=Go1.callP i hi hsl hw hr hc h
theorem gl (i:Nat) {s:Sem Value} {v:Value} (h0:s.run P c.w= .ok v c.w) (h:AC D K P l n Q fuel (li.set i true) (upO e o.dst v) c)
  (hi:l.toArray[i]? = some o:=by exact rfl) (hsl:cU n l=true:=by kernel_rfl) (hw:ec l.toArray n e o=true:=by kernel_rfl) (hx:execOp (ev n e) o=(do pure (Next.value (←s)):Sem Next):=by kernel_rfl) (hk:D.contains i=true:=by kernel_rfl):Go1 D K P l n Q fuel li e c i:=Go1.late i v hi hsl hw (rx hx h0) hk h
theorem rD (D:List Nat) (K:Cx→Prop) {id:Nat} (O:Own c G F) (h:∀c',c.le c'→Own c' G F→AC D K P l n Q l.length (List.replicate l.length false) e c') (hm:P.follows .mixedOrders=true:=by kernel_rfl):W P n (.region id l.toArray true) Q e c.w:=W.regionD D K O hm h
theorem l1 {T:TypeId} {b o:Nat} {v:Value} {d:TypeDesc} (hT:P.underlying T=some d) (h:Im c b o v) (hd:(match d with | .struct _ | .array _ _=>false | _=>true)=true:=by rfl):(Instr.loadAt T (.pointer (some ⟨b,o,none⟩))).run P c.w= .ok v c.w:=nP hT hd h
theorem lN (T:TypeId) {b o:Nat} {l:List Value} (h:∀j u,l[j]? = some u→Im c b (o+j) u) (hT:(P.underlying T).map (fun d=>match d with | .struct _ | .array _ _=>true | _=>false)=some true:=by kernel_rfl) (hs:(P.info? T).map (·.size)=some l.length:=by kernel_rfl):
  (Instr.loadAt T (.pointer (some ⟨b,o,none⟩))).run P c.w= .ok (.agg l.toArray) c.w:=rl hT hs h
theorem le1 (j:Nat) {T:TypeId} {e:En} {b:Nat} {v:Value} {d:TypeDesc} (hT:P.underlying T=some d) (h:e.on c) (hd:(match d with | .struct _ | .array _ _=>false | _=>true)=true:=by rfl) (hb:blk e.v=some b:=by rfl) (hj:e.vs[j]? = some v:=by rfl):
  (Instr.loadAt T (.pointer (some ⟨b,j,none⟩))).run P c.w= .ok v c.w:=wO hT hd h hb hj
theorem leN (T j:Nat) (l:List Value) {e:En} {b:Nat} (h:e.on c) (hT:(P.underlying T).map (fun d=>match d with | .struct _ | .array _ _=>true | _=>false)=some true:=by kernel_rfl) (hs:(P.info? T).map (·.size)=some l.length:=by kernel_rfl) (hb:blk e.v=some b:=by rfl) (hl:(e.vs.drop j).take l.length=l:=by rfl):
  (Instr.loadAt T (.pointer (some ⟨b,j,none⟩))).run P c.w= .ok (.agg l.toArray) c.w:=wN hT hs h hb hl
theorem ix {v:Value} {xs:List α} {T E:TypeId} {i:Int} {x:α} (hT:P.underlying T=some (.slice E)) (h:Sl R c v xs) (hi:idx xs i=some x) (hE:(P.info? E).map (·.size)=some R.size:=by kernel_rfl):
  (Instr.indexAt T v (.int .i64 i)).run P w= .ok (.pointer (some ⟨sb v,so v+i.toNat * R.size,none⟩)) w:=rm hT hE h hi w
theorem ln {v:Value} {xs:List α} {T E:TypeId} (ty:TypeId) (hT:P.underlying T=some (.slice E)) (h:Sl R c v xs):(Builtin.len_ #[T] ty #[v]).run P w= .ok (.int .i64 (xs.length:Int)) w:=tV hT h w
theorem bx (T:TypeId) (vs:List Value) (O:Own c G F) (hr:(execOp ρ o).run P c.w= .ok (.value (.pointer (some ⟨c.w.heap.size,0,none⟩))) (c.w.alloc (.cells vs.toArray T)):=by kernel_rfl):
  ∃v c',(execOp ρ o).run P c.w= .ok (.value v) c'.w∧c.le c'∧∃b,v= .pointer (some ⟨b,0,none⟩)∧Own c' G F∧∀j u,vs[j]? = some u→Im c' b (0+j) u:=Own.bx O hr
theorem al (T:TypeId) (vs:List Value) (O:Own c G F) (hr:(execOp ρ o).run P c.w= .ok (.value (.pointer (some ⟨c.w.heap.size,0,none⟩))) (c.w.alloc (.cells vs.toArray T)):=by kernel_rfl):
  ∃v c',(execOp ρ o).run P c.w= .ok (.value v) c'.w∧c.le c'∧∃b,v= .pointer (some ⟨b,0,none⟩)∧Own c' G (⟨.pointer (some ⟨b,0,none⟩),T,vs,0⟩ :: F):=Own.al O hr
theorem sA (T:TypeId) (us:List Value) {e:En} {b:Nat} (k:Nat) (O:Own c G F) (h1:gG us) (hx:execOp ρ o=(do Instr.storeAt T (.pointer (some ⟨b,0,none⟩)) (.agg us.toArray); pure Next.skip:Sem Next):=by kernel_rfl) (hk:F[k]? = some e:=by rfl) (hb:blk e.v=some b:=by rfl) (hlim:e.lim=0:=by rfl)
  (hs:(P.info? T).map (·.size)=some us.length:=by kernel_rfl) (hl:Nat.ble (0+us.length) e.vs.length=true:=by rfl) (hn:e.vs.take 0++us++e.vs.drop (0+us.length)=us:=by rfl):∃c',(execOp ρ o).run P c.w= .ok .skip c'.w∧c.le c'∧Own c' G (F.set k ⟨e.v,e.T,us,0⟩):=Own.st k O hx hk hb hlim rfl hs h1 hl hn
theorem sY {v:Value} (h:v.oneCell'=true):v.cells.toList= [v]:=by
 cases v <;> first | rfl | (simp [Value.oneCell'] at h)
theorem sC (T j:Nat) (v:Value) (nw:List Value) {e:En} {b:Nat} (k:Nat) (O:Own c G F) (h1:gG [v]) (hx:execOp ρ o=(do Instr.storeAt T (.pointer (some ⟨b,j,none⟩)) v; pure Next.skip:Sem Next):=by kernel_rfl) (hk:F[k]? = some e:=by rfl) (hb:blk e.v=some b:=by rfl) (hlim:e.lim=0:=by rfl)
  (hs:(P.info? T).map (·.size)=some 1:=by kernel_rfl) (hl:Nat.ble (j+1) e.vs.length=true:=by rfl) (hn:e.vs.take j++ [v]++e.vs.drop (j+1)=nw:=by rfl):∃c',(execOp ρ o).run P c.w= .ok .skip c'.w∧c.le c'∧Own c' G (F.set k ⟨e.v,e.T,nw,0⟩):=Own.st k O hx hk hb hlim (sY h1.1) hs h1 hl hn
theorem gC (T j:Nat) (v:Value) (nw:List Value) {e:En} {b g k:Nat} {E:List En} (r:Nat) (O:Own c G F) (hE:G g k=E) (h1:gG [v]) (hx:execOp ρ o=(do Instr.storeAt T (.pointer (some ⟨b,j,none⟩)) v; pure Next.skip:Sem Next):=by kernel_rfl) (hr:E[r]? = some e:=by rfl) (hb:blk e.v=some b:=by rfl) (hlim:e.lim=0:=by rfl)
  (hs:(P.info? T).map (·.size)=some 1:=by kernel_rfl) (hl:Nat.ble (j+1) e.vs.length=true:=by rfl) (hn:e.vs.take j++ [v]++e.vs.drop (j+1)=nw:=by rfl):∃c',(execOp ρ o).run P c.w= .ok .skip c'.w∧c.le c'∧Own c' (fK G g k (E.set r ⟨e.v,e.T,nw,0⟩)) F:=Own.stG r O hx hE hr hb hlim (sY h1.1) hs h1 hl hn
theorem sl (R:Rp α) (E:TypeId) (ls:List (List Value)) (xs:List α) (O:Own c G F) (hR:oW R c ls xs) (hp:0 < R.size:=by exact fD _) (hm:Nat.ble xs.length 4294967296=true:=by kernel_rfl)
  (hr:(execOp ρ o).run P c.w= .ok (.value (.slice (some ⟨c.w.heap.size,0,none⟩) xs.length xs.length)) (c.w.alloc (.cells ls.flatten.toArray E)):=by kernel_rfl):
  ∃v c',(execOp ρ o).run P c.w= .ok (.value v) c'.w∧c.le c'∧∃vs,Own c' G (es true R v E vs xs :: F)∧OA R c' v vs xs:=Own.sl true O hp rfl hR hm hr
theorem ap (R:Rp α) (z:Value) (by_ ty:Nat) {E t:TypeId} {v u:Value} {vs:List Value} {xs ys zs:List α} {m:Bool} (k:Nat) (O:Own c G F) (h:OA R c v vs xs) (hS:Sl R c u ys) (happ:app xs ys=some zs) (hT:P.underlying t=some (.slice E)) (hk:F[k]? = some (es m R v E vs xs):=by rfl)
  (hi:(P.info? E).map (fun i=>(i.zero,i.size,i.bytes))=some (some z,R.size,by_):=by kernel_rfl) (hz:z.cells.size=R.size:=by rfl) (hby:Nat.ble by_ 128=true:=by kernel_rfl) (hx:execOp ρ o=(do pure (Next.value (←Builtin.append_ #[t,t] ty #[v,u])):Sem Next):=by kernel_rfl):
  ∃v' c',(execOp ρ o).run P c.w= .ok (.value v') c'.w∧c.le c'∧∃vs',Own c' G (F.set k (es m R v' E vs' zs))∧OA R c' v' vs' zs:=Own.app k O hk h hS happ hT hi hz hby hx
variable {RR:Ending→World→Prop}
theorem r0 (h:RR (.returned (.tuple #[])) w) (hr:fn.results= #[]:=by rfl):iC P fn n RR .ret e w:=wI hr h
theorem n0 (h:RR (.returned (.tuple #[])) w) (hr:fn.results= #[]:=by rfl):iC P fn n RR .normal e w:=wR hr h
theorem r1 {t:Nat} {v:Value} (h:RR (.returned v) w) (hr:fn.results= #[.tmp t]:=by rfl) (hv:ev n e (.tmp t)=v:=by kernel_rfl):iC P fn n RR .ret e w:=uL hr hv h
theorem r2 {t u:Nat} {v v':Value} (h:RR (.returned (.tuple #[v,v'])) w) (hr:fn.results= #[.tmp t,.tmp u]:=by rfl) (hv:ev n e (.tmp t)=v:=by kernel_rfl) (hu:ev n e (.tmp u)=v':=by kernel_rfl):iC P fn n RR .ret e w:=wH hr hv hu h
theorem r3 {t u s:Nat} {v v' v'':Value} (h:RR (.returned (.tuple #[v,v',v''])) w) (hr:fn.results= #[.tmp t,.tmp u,.tmp s]:=by rfl) (hv:ev n e (.tmp t)=v:=by kernel_rfl) (hu:ev n e (.tmp u)=v':=by kernel_rfl) (hs:ev n e (.tmp s)=v'':=by kernel_rfl):iC P fn n RR .ret e w:=wG hr hv hu hs h
end
abbrev I (x:Int):Value:= .int .i64 x
abbrev J (x:Int):Value:= .int .i32 x
abbrev B (x:Bool):Value:= .bool x
abbrev Q (b:Nat):Value:= .pointer (some ⟨b,0,none⟩)
abbrev Qo (b o:Nat):Value:= .pointer (some ⟨b,o,none⟩)
abbrev xp (a b c:Int):Value:= .agg #[I a,I b,I c]
abbrev III (a b:Int):Value:= .agg #[I a,I b]
abbrev xo (a b c:Int):Value:= .agg #[J a,J b,J c]
abbrev JII (a b:Int):Value:= .agg #[J a,J b]
abbrev Y:Value:= .slice none 0 0
abbrev Eb (b:Nat) (T:TypeId) (l:List Value):En:=⟨.pointer (some ⟨b,0,none⟩),T,l,0⟩
end Go.Lt
namespace Go.Lt
def oR (l:List Int):ByteArray:=⟨(l.map fun x=>UInt8.ofNat x.toNat).toArray⟩
def eqS (a b:ByteArray):Bool:=a.data.toList==b.data.toList
theorem dP {P:Program} {ρ:Operand→Value} {o:Oper} {a b:ByteArray} {w:World} (hr:(execOp ρ o).run P w= .ok (.value (.bool (a.toList==b.toList))) w):(execOp ρ o).run P w= .ok (.value (.bool (eqS a b))) w:=by
 rw [hr,jc,jc];rfl
theorem kJ {P:Program} {ρ:Operand→Value} {o:Oper} {a b:ByteArray} {w:World} (hr:(execOp ρ o).run P w= .ok (.value (.bool (!(a.toList==b.toList)))) w):(execOp ρ o).run P w= .ok (.value (.bool (!eqS a b))) w:=by
 rw [hr,jc,jc];rfl
theorem nc:∀(l:List Int) (r:ByteArray),l.foldl (fun r n=>r.push (UInt8.ofNat n.toNat)) r=⟨r.data++(oR l).data⟩
 | [],r=>by simp [oR]
 | x :: l,r=>by
  rw [List.foldl_cons,nc l];simp [oR,ByteArray.push]
theorem rY {P:Program} {c:Cx} {src dst e:TypeId} {v:Value} {xs:List Int} (hs:P.underlying src=some (.slice e)) (he:P.underlying e=some (.int .u8)) (hd:P.underlying dst=some .string) (h:Sl (RI .u8) c v xs):
  (convert src dst v).run P c.w= .ok (.string (oR xs)) c.w:=by
 obtain ⟨a,cap,rfl,_,_,h4⟩:=h;rw [run_convert_bytes_string c.w src dst e a xs.length cap hs he hd]
 cases xs with
 | nil=>
  cases a with
  | none=>rfl
  | some ad=>
   have:=xh (P:=P) c.w ad 0 cap [] (by simp [loadCells,loadCellsFrom]);exact this
 | cons y t=>
  obtain ⟨b,off,l,rfl,_,_⟩:=h4 0 y rfl;have hl:=run_loadCells_list (P:=P) (w:=c.w) ⟨b,off,none⟩ ((y :: t).map (Value.int .u8)) (fun j v hj=>by
   rw [fU,vB] at hj;obtain ⟨x,hx,rfl⟩:=hj;obtain ⟨b',off',l',e,hl,hc⟩:=h4 j x hx;cases e;have:=(hc 0 _ (by rw [show l'= [.int .u8 x] from hl]; rfl)).cell;rw [show off+j * (RI .u8).size+0=off+j by show off+j * 1+0=off+j; omega] at this;rw [gn];exact this)
  rw [an] at hl;rw [xh c.w ⟨b,off,none⟩ (y :: t).length cap (y :: t) hl,nc,show ByteArray.empty.data= #[] from rfl,xg]
def bN (s:ByteArray):Int:=(s.size:Int)
def ek (a b:ByteArray):Option ByteArray:=if a.size+b.size≤far then some (a++b) else none
def dY (s:ByteArray) (i j:Int):Option ByteArray:=if 0≤i∧i≤j∧j≤s.size then some (s.extract i.toNat j.toNat) else none
theorem oq {s r:ByteArray} {i j:Int} (h:dY s i j=some r):(0≤i∧i≤j∧j≤s.size)∧s.extract i.toNat j.toNat=r:=by
 unfold dY at h;split at h
 ·exact ⟨by assumption,by simpa using h⟩
 ·cases h
theorem dy {P:Program} {T ty:TypeId} {s:ByteArray} (hT:P.underlying T=some .string) (w:World):(Builtin.len_ #[T] ty #[.string s]).run P w= .ok (.int .i64 (bN s)) w:=run_len_string w T ty s hT
theorem bf {P:Program} {a b r:ByteArray} (h:ek a b=some r) (w:World):(Op.stringOp .add a b).run P w= .ok (.string r) w:=by
 unfold ek far at h;split at h
 ·cases h;exact run_string_add_sum w a b (by omega)
 ·cases h
theorem bU {P:Program} {T:TypeId} {s r:ByteArray} {k k':IntKind} {i j:Int} (hT:P.underlying T=some .string) (h:dY s i j=some r) (w:World):(Instr.sliceAt T (.string s) (some (.int k i)) (some (.int k' j)) none).run P w= .ok (.string r) w:=by
 rw [ou _ _ _ _ _ _ hT];obtain ⟨⟨h0,h1,h2⟩,rfl⟩:=oq h;exact run_slice_string w T s k k' i j hT h0 h1 h2
theorem nO {P:Program} {T:TypeId} {s r:ByteArray} {k':IntKind} {j:Int} (hT:P.underlying T=some .string) (h:dY s 0 j=some r) (w:World):(Instr.sliceAt T (.string s) none (some (.int k' j)) none).run P w= .ok (.string r) w:=by
 rw [ou _ _ _ _ _ _ hT];obtain ⟨⟨h0,h1,h2⟩,rfl⟩:=oq h;rw [run_slice_string_to_if w T s k' j hT,ai ⟨h1,h2⟩];rfl
theorem fN {P:Program} {T:TypeId} {s r:ByteArray} {k:IntKind} {i:Int} (hT:P.underlying T=some .string) (h:dY s i (bN s)=some r) (w:World):(Instr.sliceAt T (.string s) (some (.int k i)) none none).run P w= .ok (.string r) w:=by
 rw [ou _ _ _ _ _ _ hT];obtain ⟨⟨h0,h1,h2⟩,rfl⟩:=oq h;rw [run_slice_string_from_if w T s k i hT,ai ⟨h0,h1⟩];rfl
abbrev T2:=Int×Int
def a2 (t:T2):List Int:=[t.1,t.2]
theorem W.regionE {P:Program} {n:Fr} {Q:Exit→(Nat→Value)→World→Prop} (D:List Nat) (K:Cx→Prop) {id:Nat} {l:List Oper} {e:Nat→Value} {c:Cx} (hm:P.follows .mixedOrders=true)
  (h:AC D K P l n Q l.length (List.replicate l.length false) e ⟨c.w.drew,c.A,c.t⟩):W P n (.region id l.toArray true) Q e c.w:=
 wpIn_region_any hm (by
  have:=ka.sound _ _ _ _ h;rw [show (List.replicate l.length false).toArray=Array.replicate l.toArray.size false by simp] at this;exact this)
theorem Own.below {c:Cx} {w':World} {G:Gm} {F:List En} (O:Own c G F) (h:RowKit.Below c.w.heap.size c.w w'):∃c':Cx,c'.w=w'∧c.le c'∧Own c' G F∧∀b o v,c.w.heap.size≤b→w'.cell? ⟨b,o,none⟩=some v→Im c' b o v:=by
 have hbut:c.but (fun _=>False) ⟨w',fun k o=>k < c.w.heap.size∧c.A k o,c.t⟩:=by
  refine ⟨⟨h.os,h.output,h.size,fun k o h1 h2=>⟨cy (w:=c.w) (a:=⟨k,o,none⟩) (h.block k h1),fun q=>h2 q.2⟩,fun k h1 _=>h.block k h1,fun a h1 _=>by simp only [World.frozen?,h.block _ h1],fun _ _ _ q=>q⟩,rfl,fun k h1 _=>⟨h.block k h1,fun o=>⟨fun q=>q.2,fun q=>⟨h1,q⟩⟩⟩⟩
 refine ⟨_,rfl,hbut.le,O.keep hbut,fun b o v hb hv=>⟨?_,fun q=>by omega,hv⟩⟩;show b < w'.heap.size;rcases aG b w'.heap.size with q | q
 ·exact q
 ·simp only [World.cell?,bH q] at hv;cases hv
def s2b (s:ByteArray):Option (List Int):=if s.size≤1099511627776 then some (s.data.toList.map fun b=>(b.toNat:Int)) else none
theorem Own.s2b {P:Program} {c:Cx} {G:Gm} {F:List En} {ρ:Operand→Value} {o:Oper} {src dst e:TypeId} {s:ByteArray} {xs:List Int} (O:Own c G F) (hs:P.underlying src=some .string) (hd:P.underlying dst=some (.slice e)) (he:P.underlying e=some (.int .u8)) (h:Go.Lt.s2b s=some xs)
  (hx:execOp ρ o=(do pure (Next.value (←convert src dst (.string s))):Sem Next)):
  ∃v c',(execOp ρ o).run P c.w= .ok (.value v) c'.w∧c.le c'∧(Own c' G F∧Sl (RI .u8) c' v xs):=by
 unfold Go.Lt.s2b at h;split at h
 ·rename_i hl
  cases h;have hb:RowKit.Below c.w.heap.size c.w (Lib.bytesWorld c.w e s):=by
   unfold Lib.bytesWorld;refine wU (b:=c.w.drew.alloc (.cells (Lib.bytesCells c.w e s) e)) ((eV c.w.heap.size c.w).drew.alloc (aB _) _) ?_;refine ⟨rfl,rfl,rfl,?_,fun k hk=>?_⟩
   ·simp [World.freeze]
   ·simp [World.freeze,fL,Nat.ne_of_gt hk]
  obtain ⟨c',e1,e2,e3,e4⟩:=Own.below O hb;have hsz:s.data.toList.length=s.size:=rfl;refine ⟨.slice (some ⟨c.w.heap.size,0,none⟩) s.size (grownCap c.w s.size 0 e),c',?_,e2,e3,⟨_,grownCap c.w s.size 0 e,by rw [an,hsz],by rw [an,hsz]; exact grownCap_ge _ _ _ _,wP _ _ _ _ (by unfold maxLen; omega),fun i x hi=>⟨_,_,[.int .u8 x],rfl,rfl,fun j u hu=>?_⟩⟩⟩
  ·rw [e1];exact rx hx (Lib.run_convert_string_bytes c.w src dst e s hs hd he)
  ·cases j with
   | succ j=>simp at hu
   | zero=>
    simp only [au,aQ] at hu;subst hu;refine e4 _ _ _ (aB _) ?_;rw [fU,vB] at hi;obtain ⟨b,hb1,rfl⟩:=hi;have hlt:=(List.getElem?_eq_some_iff.1 hb1).1;rw [show 0+i * (RI .u8).size+0=i by show 0+i * 1+0=i; omega,Lib.bytesWorld_cell c.w e s i (by rw [←hsz]; exact hlt),jL,hb1];rfl
 ·cases h
theorem Own.alA {P:Program} {c:Cx} {G:Gm} {F:List En} {ρ:Operand→Value} {o:Oper} {k:IntKind} {T:TypeId} (n:Nat) (O:Own c G F) (hn:Nat.ble n 4294967296=true)
  (hr:(execOp ρ o).run P c.w= .ok (.value (.pointer (some ⟨c.w.heap.size,0,none⟩))) (c.w.alloc (.cells (List.replicate n (Value.int k 0)).toArray T))):
  ∃v c',(execOp ρ o).run P c.w= .ok (.value v) c'.w∧c.le c'∧∃b us,v= .pointer (some ⟨b,0,none⟩)∧Own c' G (es true (RI k) (.slice (some ⟨b,0,none⟩) n n) T us (List.replicate n 0) :: F)∧OA (RI k) c' (.slice (some ⟨b,0,none⟩) n n) us (List.replicate n 0):=by
 have hn:=bD hn;obtain ⟨c',h1,h2,h3,_,h4⟩:=Cx.new c (List.replicate n (Value.int k 0)) T 0;refine ⟨_,c',by rw [h1]; exact hr,h2.le,c.w.heap.size,List.replicate n (Value.int k 0),rfl,O.cons h2 (fun _=>id) (fun b hb=>?_) (fun b hb=>?_),fD _,.inr ⟨_,n,by rw [mc],by rw [mc]; exact aB _,by unfold maxLen; omega,by rw [mc]; show n * 1≤n; omega⟩,fun i x hi=>?_⟩
 ·simp only [es,Go.Lt.blk,aQ] at hb; subst hb; exact ⟨h3,h4⟩
 ·simp only [es,Go.Lt.blk,aQ] at hb; omega
 ·rw [List.getElem?_replicate] at hi;split at hi
  ·rename_i hlt
   cases hi;show ((List.replicate n (Value.int k 0)).drop (i * 1)).take 1= [Value.int k 0];rw [List.drop_replicate,List.take_replicate,show min 1 (n - i * 1)=1 by omega];rfl
  ·cases hi
def nH (n:Int) (xs:List Int) (i:Int):Option Int:=if i < n then idx xs i else none
theorem kV {n:Int} {xs:List Int} {i x:Int} (h:nH n xs i=some x):idx xs i=some x∧i < n:=by
 unfold nH at h;split at h
 ·exact ⟨h,by assumption⟩
 ·cases h
theorem gR {P:Program} {T E:TypeId} {n b m l:Nat} {k:IntKind} {i:Int} (hT:P.underlying T=some (.array n E)) (hE:(P.info? E).map (·.size)=some 1) (h0:0≤i) (h1:i < (n:Int)) (w:World):
  (Instr.indexAt T (.pointer (some ⟨b,0,none⟩)) (.int k i)).run P w= .ok (.pointer (some ⟨sb (.slice (some ⟨b,0,none⟩) m l),i.toNat * 1,none⟩)) w:=by
 rw [pW hT hE h0 h1 w,gk];rfl
theorem rX {P:Program} {c:Cx} {T E:TypeId} {n b:Nat} {k q:IntKind} {i:Int} {xs zs:List Int} (hT:P.underlying T=some (.array n E)) (hE:(P.info? E).map (·.size)=some 1) (h:Sl (RI q) c (.slice (some ⟨b,0,none⟩) n n) xs) (hz:slc xs i xs.length=some zs):
  ∃v',(∀w,(Instr.sliceAt T (.pointer (some ⟨b,0,none⟩)) (some (.int k i)) none none).run P w= .ok v' w)∧Sl (RI q) c v' zs:=by
 obtain ⟨h1,h2,h3,rfl⟩:=uI hz;obtain ⟨ti,hti,hsz⟩:=Option.map_eq_some_iff.1 hE;have hh:=h;obtain ⟨a,cap,hv,h4,h5,h6⟩:=h;simp only [Value.slice.injEq] at hv;obtain ⟨rfl,hn,rfl⟩:=hv;rw [hn] at hh;have hcut:=Sl.cut (l:=i.toNat) (h:=xs.length) (m:=n) (cap:=n) (by rw [←hn] at hh⊢; exact hh) (by omega) (by omega) (by omega) (aB _);rw [show ((xs.length:Int) - i).toNat=xs.length - i.toNat by omega];refine ⟨_,fun w=>?_,hcut⟩;have e1:0≤i∧i≤(n:Int):=⟨h1,by omega⟩;simp [Instr.sliceAt,Instr.sureAddr,di hT,Instr.sliceBounds,Instr.sliceBound,asIntOf,e1,sizeOf,typeInfo,hti,hsz,gn,hn,RI,h2];split <;> rfl
end Go.Lt
namespace Go.Proofs.YtmncdniojmigeaaGreatDoor
open Go Go.Lt
set_option linter.unusedVariables false
structure tA where
 Kind:Int
 A:Int
 B:Int
 Bytes:List Int
def wm:Rp tA where
 size:=4
 cells:=fun c l x=>∃y1:Value,l= [.int .i64 x.Kind,.int .i64 x.A,.int .i64 x.B,y1]∧Sl (RI .u8) c y1 x.Bytes
 len:=by
  intro c l x h
  obtain ⟨_,rfl,h0⟩:=h
  rfl
 one:=by
  intro c l x h v hv
  obtain ⟨_,rfl,h0⟩:=h
  simp only [dJ,eq,kO] at hv
  rcases hv with rfl | rfl | rfl | rfl
  ·rfl
  ·rfl
  ·rfl
  ·exact h0.one
 mono:=by
  intro c c2 l x hc h
  obtain ⟨_,rfl,h0⟩:=h
  exact ⟨_,rfl,h0.lw hc⟩
structure aF where
 Row:Int
 Col:Int
 Pending:Bool
def oV:Rp aF where
 size:=3
 cells:=fun _ l x=>l= [.int .i64 x.Row,.int .i64 x.Col,.bool x.Pending]
 len:=by
  intro c l x h
  obtain rfl:=h
  rfl
 one:=by
  intro c l x h v hv
  obtain rfl:=h
  simp only [dJ,eq,kO] at hv
  rcases hv with rfl | rfl | rfl
  ·rfl
  ·rfl
  ·rfl
 mono:=by
  intro c c2 l x hc h
  obtain rfl:=h
  exact rfl
structure ak where
 Kind:Int
 Text:List Int
def bG:Rp ak where
 size:=2
 cells:=fun c l x=>∃y1:Value,l= [.int .i64 x.Kind,y1]∧Sl (RI .i32) c y1 x.Text
 len:=by
  intro c l x h
  obtain ⟨_,rfl,h0⟩:=h
  rfl
 one:=by
  intro c l x h v hv
  obtain ⟨_,rfl,h0⟩:=h
  simp only [dJ,eq,kO] at hv
  rcases hv with rfl | rfl
  ·rfl
  ·exact h0.one
 mono:=by
  intro c c2 l x hc h
  obtain ⟨_,rfl,h0⟩:=h
  exact ⟨_,rfl,h0.lw hc⟩
structure ah where
 Cells:List ak
 Wrap:Bool
def aJ:Rp ah where
 size:=2
 cells:=fun c l x=>∃y1:Value,l= [y1,.bool x.Wrap]∧Sl bG c y1 x.Cells
 len:=by
  intro c l x h
  obtain ⟨_,rfl,h0⟩:=h
  rfl
 one:=by
  intro c l x h v hv
  obtain ⟨_,rfl,h0⟩:=h
  simp only [dJ,eq,kO] at hv
  rcases hv with rfl | rfl
  ·exact h0.one
  ·rfl
 mono:=by
  intro c c2 l x hc h
  obtain ⟨_,rfl,h0⟩:=h
  exact ⟨_,rfl,h0.lw hc⟩
structure af where
 Wide:Int
 High:Int
 Lines:List ah
 At:aF
 Auto:Bool
def qs:Rp af where
 size:=7
 cells:=fun c l x=>∃y1:Value,l= [.int .i64 x.Wide,.int .i64 x.High,y1,.int .i64 x.At.Row,.int .i64 x.At.Col,.bool x.At.Pending,.bool x.Auto]∧Sl aJ c y1 x.Lines
 len:=by
  intro c l x h
  obtain ⟨_,rfl,h0⟩:=h
  rfl
 one:=by
  intro c l x h v hv
  obtain ⟨_,rfl,h0⟩:=h
  simp only [dJ,eq,kO] at hv
  rcases hv with rfl | rfl | rfl | rfl | rfl | rfl | rfl
  ·rfl
  ·rfl
  ·exact h0.one
  ·rfl
  ·rfl
  ·rfl
  ·rfl
 mono:=by
  intro c c2 l x hc h
  obtain ⟨_,rfl,h0⟩:=h
  exact ⟨_,rfl,h0.lw hc⟩
structure ab where
 words:List ByteArray
 at_:Int
 bad:Bool
structure am where
 rest:ByteArray
 n:Int
 v:af
def qt (G G':Gm):Prop:=∀g k,G g k≠ []→G' g k=G g k
structure Sto where
 snap_reader:List am
 api_Line:List ah
def Sto.set_snap_reader (s:Sto) (k:Nat) (x:am):Option Sto:=if k < s.snap_reader.length then some { s with snap_reader:=s.snap_reader.set k x} else none
def Sto.add_snap_reader (s:Sto) (x:am):Sto:={ s with snap_reader:=s.snap_reader++ [x]}
def cN (c:Cx) (t:Option Nat) (E:List En) (x:am):Prop:=∃(b:Nat) (y1:Value) (u1:List Value),t=some b∧E= [⟨.pointer (some ⟨b,0,none⟩),106,[.string x.rest,.int .i64 x.n,.int .i64 x.v.Wide,.int .i64 x.v.High,y1,.int .i64 x.v.At.Row,.int .i64 x.v.At.Col,.bool x.v.At.Pending,.bool x.v.Auto],0⟩,es false aJ y1 97 u1 x.v.Lines]∧OA aJ c y1 u1 x.v.Lines
theorem cN.lw {c c':Cx} (k:c.lw c') (b:Nat) (E:List En) (x:am):cN c (some b) E x→cN c' (some b) E x:=by
 rintro ⟨b,y1,u1,e1,e2,h0⟩;exact ⟨b,y1,u1,e1,e2,h0.lw k⟩
theorem cN.no {c:Cx} (E:List En) (x:am):¬cN c none E x:=by
 rintro ⟨b,y1,u1,e1,_⟩;cases e1
def Sto.set_api_Line (s:Sto) (k:Nat) (x:ah):Option Sto:=if k < s.api_Line.length then some { s with api_Line:=s.api_Line.set k x} else none
def Sto.add_api_Line (s:Sto) (x:ah):Sto:={ s with api_Line:=s.api_Line++ [x]}
def em (c:Cx) (t:Option Nat) (E:List En) (x:ah):Prop:=∃(b:Nat) (y1:Value) (u1:List Value),t=some b∧E= [⟨.pointer (some ⟨b,0,none⟩),97,[y1,.bool x.Wrap],0⟩,es false bG y1 94 u1 x.Cells]∧OA bG c y1 u1 x.Cells
theorem em.lw {c c':Cx} (k:c.lw c') (b:Nat) (E:List En) (x:ah):em c (some b) E x→em c' (some b) E x:=by
 rintro ⟨b,y1,u1,e1,e2,h0⟩;exact ⟨b,y1,u1,e1,e2,h0.lw k⟩
theorem em.no {c:Cx} (E:List En) (x:ah):¬em c none E x:=by
 rintro ⟨b,y1,u1,e1,_⟩;cases e1
structure Rel (c:Cx) (s:Sto) (G:Gm):Prop where
 snap_reader:Rl cN 0 c G s.snap_reader
 api_Line:Rl em 1 c G s.api_Line
theorem Rel.lw {c c':Cx} {s:Sto} {G:Gm} (h:Rel c s G) (k:c.lw c'):Rel c' s G:=
 ⟨h.snap_reader.mono (cN.lw k) cN.no k,h.api_Line.mono (em.lw k) em.no k⟩
theorem Rel.mono {c c':Cx} {s:Sto} {G:Gm} (h:Rel c s G) (k:c.le c'):Rel c' s G:=h.lw k.lw
theorem Rel.m {c c':Cx} {s:Sto} {G:Gm} (h:Rel c s G) (k:c.le c':=by repeat (first | assumption | refine Cx.le.trans ?_ (by assumption))):Rel c' s G:=h.mono k
theorem Rel.open_snap_reader {c:Cx} {s:Sto} {G:Gm} {k b:Nat} {x:am} (R:Rel c s G) (hx:s.snap_reader[k]? = some x) (ht:c.t 0 k=some b):∃(y1:Value) (u1:List Value),G 0 k= [⟨.pointer (some ⟨b,0,none⟩),106,[.string x.rest,.int .i64 x.n,.int .i64 x.v.Wide,.int .i64 x.v.High,y1,.int .i64 x.v.At.Row,.int .i64 x.v.At.Col,.bool x.v.At.Pending,.bool x.v.Auto],0⟩,es false aJ y1 97 u1 x.v.Lines]∧OA aJ c y1 u1 x.v.Lines:=by
 obtain ⟨b',y1,u1,e1,e2,h0⟩:=R.snap_reader.ob k x hx;rw [ht] at e1;cases e1;exact ⟨y1,u1,e2,h0⟩
theorem Rel.put_snap_reader {c:Cx} {s s':Sto} {G:Gm} {F:List En} {k:Nat} {E':List En} {x':am} (O:Own c (fK G 0 k E') F) (R:Rel c s G) (h:s.set_snap_reader k x'=some s') (hY:cN c (c.t 0 k) E' x'):
  ∃G',Own c G' F∧Rel c s' G'∧G' 0 k=E'∧∀G0,qt G0 G→G0 0 k= []→qt G0 G':=by
 unfold Sto.set_snap_reader at h;split at h
 ·rename_i hk
  cases h;refine ⟨_,O,⟨R.snap_reader.set hk hY,R.api_Line.other (by decide)⟩,cQ _ _ _ _,fun G0 h1 h2 g' k' h3=>?_⟩;rw [fc (by rintro ⟨rfl,rfl⟩; exact h3 h2)];exact h1 g' k' h3
 ·cases h
theorem Rel.new_snap_reader {c:Cx} {s:Sto} {G:Gm} {F E:List En} {x:am} {b:Nat} (O:Own c G (E++F)) (R:Rel c s G) (hY:∀c',c.le c'→cN c' (some b) E x):
  ∃c' G',(c'.w=c.w∧c'.A=c.A)∧c.le c'∧c'.t 0 s.snap_reader.length=some b∧Own c' G' F∧Rel c' (s.add_snap_reader x) G'∧G' 0 s.snap_reader.length=E∧G 0 s.snap_reader.length= []∧qt G G':=by
 have hE:=R.snap_reader.no _ (aB _);have hne:E≠ []:=by
  obtain ⟨_,_,_,_,rfl,_⟩:=hY c (Cx.le.refl c);simp
 obtain ⟨c',hw,hle,ht,O'⟩:=Own.newObj (b:=b) O hE hne;have R':=R.mono hle;refine ⟨c',_,hw,hle,ht,O',⟨R'.snap_reader.new (by rw [ht]; exact hY c' hle),R'.api_Line.other (by decide)⟩,cQ _ _ _ _,hE,fun g' k' h3=>?_⟩;exact fc (by rintro ⟨rfl,rfl⟩; exact h3 hE)
theorem Rel.open_api_Line {c:Cx} {s:Sto} {G:Gm} {k b:Nat} {x:ah} (R:Rel c s G) (hx:s.api_Line[k]? = some x) (ht:c.t 1 k=some b):∃(y1:Value) (u1:List Value),G 1 k= [⟨.pointer (some ⟨b,0,none⟩),97,[y1,.bool x.Wrap],0⟩,es false bG y1 94 u1 x.Cells]∧OA bG c y1 u1 x.Cells:=by
 obtain ⟨b',y1,u1,e1,e2,h0⟩:=R.api_Line.ob k x hx;rw [ht] at e1;cases e1;exact ⟨y1,u1,e2,h0⟩
theorem Rel.put_api_Line {c:Cx} {s s':Sto} {G:Gm} {F:List En} {k:Nat} {E':List En} {x':ah} (O:Own c (fK G 1 k E') F) (R:Rel c s G) (h:s.set_api_Line k x'=some s') (hY:em c (c.t 1 k) E' x'):
  ∃G',Own c G' F∧Rel c s' G'∧G' 1 k=E'∧∀G0,qt G0 G→G0 1 k= []→qt G0 G':=by
 unfold Sto.set_api_Line at h;split at h
 ·rename_i hk
  cases h;refine ⟨_,O,⟨R.snap_reader.other (by decide),R.api_Line.set hk hY⟩,cQ _ _ _ _,fun G0 h1 h2 g' k' h3=>?_⟩;rw [fc (by rintro ⟨rfl,rfl⟩; exact h3 h2)];exact h1 g' k' h3
 ·cases h
theorem Rel.new_api_Line {c:Cx} {s:Sto} {G:Gm} {F E:List En} {x:ah} {b:Nat} (O:Own c G (E++F)) (R:Rel c s G) (hY:∀c',c.le c'→em c' (some b) E x):
  ∃c' G',(c'.w=c.w∧c'.A=c.A)∧c.le c'∧c'.t 1 s.api_Line.length=some b∧Own c' G' F∧Rel c' (s.add_api_Line x) G'∧G' 1 s.api_Line.length=E∧G 1 s.api_Line.length= []∧qt G G':=by
 have hE:=R.api_Line.no _ (aB _);have hne:E≠ []:=by
  obtain ⟨_,_,_,_,rfl,_⟩:=hY c (Cx.le.refl c);simp
 obtain ⟨c',hw,hle,ht,O'⟩:=Own.newObj (b:=b) O hE hne;have R':=R.mono hle;refine ⟨c',_,hw,hle,ht,O',⟨R'.snap_reader.other (by decide),R'.api_Line.new (by rw [ht]; exact hY c' hle)⟩,cQ _ _ _ _,hE,fun g' k' h3=>?_⟩;exact fc (by rintro ⟨rfl,rfl⟩; exact h3 hE)
def Gl (n:List Nat) (c:Cx):Prop:=(∀g,g∈n→∃v,RE 230 87 c v (.sent g))∧∀g g',g∈n→g'∈n→g≠g'→∀a,Im c g 0 (.iface 230 (.pointer (some a)))→Im c g' 0 (.iface 230 (.pointer (some a)))→False
theorem Gl.lw {n:List Nat} {c c':Cx} (h:Gl n c) (k:c.lw c'):Gl n c':=by
 have key:∀g,g∈n→∀u,Im c' g 0 u→Im c g 0 u:=fun g hg u hu=>by
  obtain ⟨v,hv⟩:=h.1 g hg;have h1:=hv.im;have h2:=h1.lw k;have h3:=h2.cell.symm.trans hu.cell;cases h3;exact h1
 exact ⟨fun g hg=>(h.1 g hg).imp fun v hv=>hv.lw k,fun g g' hg hg' hne a h1 h2=>h.2 g g' hg hg' hne a (key g hg _ h1) (key g' hg' _ h2)⟩
theorem Gl.mono {n:List Nat} {c c':Cx} (h:Gl n c) (k:c.le c'):Gl n c':=h.lw k.lw
theorem Gl.m {n:List Nat} {c c':Cx} (h:Gl n c) (k:c.le c':=by repeat (first | assumption | refine Cx.le.trans ?_ (by assumption))):Gl n c':=h.mono k
theorem Gl.le {n m:List Nat} {c:Cx} (h:Gl n c) (k:∀g∈m,g∈n):Gl m c:=⟨fun g hg=>h.1 g (k g hg),fun g g' hg hg'=>h.2 g g' (k g hg) (k g' hg')⟩
theorem Gl.get {n:List Nat} {c:Cx} (h:Gl n c) (g:Nat) (hg:g∈n):∃v,RE 230 87 c v (.sent g):=h.1 g hg
end Go.Proofs.YtmncdniojmigeaaGreatDoor
namespace Go.Proofs.YtmncdniojmigeaaGreatDoor
open Go Go.Lt
set_option maxRecDepth 10000
set_option linter.unusedVariables false
attribute [local irreducible] W WL AC
open Go.RowKit
structure Et (c:Cx):Prop where
 ml:∃m,Im c 9 0 (.int .i64 m)
 fz:Fz c 10
 tb:Lib.TabIs Tryz.prog c.w "internal/strconv.uint64pow10" .u64 Lib.pow10Tab
theorem lP:Tryz.prog.globalNamed "internal/strconv.uint64pow10" = some 10:=by kernel_rfl
theorem rU {w w':World} (h:w'.heap[10]? = w.heap[10]?) (t:Lib.TabIs Tryz.prog w "internal/strconv.uint64pow10" .u64 Lib.pow10Tab):Lib.TabIs Tryz.prog w' "internal/strconv.uint64pow10" .u64 Lib.pow10Tab:=by
 unfold Lib.TabIs World.var? at t⊢;rw [lP] at t⊢;simp only [gj] at t⊢;rw [h];exact t
theorem Et.mono {c c':Cx} (h:Et c) (k:c.le c'):Et c':=by
 obtain ⟨m,hm⟩:=h.ml;exact ⟨⟨m,hm.mono k⟩,h.fz.mono k,rU (k.block _ h.fz.lt h.fz.nA) h.tb⟩
theorem Et.m {c c':Cx} (h:Et c) (k:c.le c':=by repeat (first | assumption | refine Cx.le.trans ?_ (by assumption))):Et c':=h.mono k
section
variable {P:Program} {c0:Cx} {G:Gm} {F:List En}
theorem gO (O0:Own c0 G F) {f:FuncId} {args:Array Value} {v:Value} (h:Calls P f args c0.w fun e w'=>e= .returned v∧RowKit.Below c0.w.heap.size c0.w w'):
  Calls P f args c0.w (aX c0 fun c v'=>Own c G F∧v'=v):=by
 refine h.mono ?_;rintro e w' ⟨rfl,hb⟩;obtain ⟨c',rfl,h2,h3,_⟩:=Own.below O0 hb;exact ⟨_,c',rfl,rfl,h2,h3,rfl⟩
theorem lI (w:World) (e:TypeId) (s:ByteArray):RowKit.Below w.heap.size w (Lib.bytesWorld w e s):=by
 unfold Lib.bytesWorld;refine wU (b:=w.drew.alloc (.cells (Lib.bytesCells w e s) e)) ((eV w.heap.size w).drew.alloc (aB _) _) ?_;refine ⟨rfl,rfl,rfl,?_,fun k hk=>?_⟩
 ·simp [World.freeze]
 ·simp [World.freeze,fL,Nat.ne_of_gt hk]
end
def mkS (l:List UInt8):ByteArray:=⟨l.toArray⟩
def blS (s:ByteArray):List UInt8:=s.data.toList
def qM:Go.Shelf.Ren:=⟨fun | 0=>0 | 1=>1 | 2=>2 | 99=>141 | 103=>97 | 119=>171 | 120=>167 | 129=>147 | 137=>96 | 138=>94 | 143=>95 | 145=>38 | 146=>45 | 151=>156 | 152=>166 | 156=>44 | 160=>98 | 165=>68 | 166=>32 | 169=>34 | 171=>33 | 172=>99 | 173=>79 | 174=>163 | 195=>127 | 197=>128 | 205=>170 | 206=>154 | 210=>130 | 217=>122 | 218=>129 | 219=>91 | 220=>67 | 221=>69 | 224=>124 | 225=>123 | 227=>133 | 228=>155 | 231=>131 | 232=>132 | 233=>134 | 234=>135 | 235=>136 | 236=>137 | 240=>65 | 241=>92 | 243=>66 | 244=>138 | 245=>139 | 246=>90 | 247=>158 | 260=>153 | 266=>151 | 267=>125 | 268=>93 | 271=>157 | 276=>89 | 277=>126 | 279=>159 | 280=>160 | 281=>161 | 282=>162 | 283=>118 | 284=>119 | 285=>120 | 286=>121 | 287=>168 | 314=>152 | 316=>169 | 317=>146 | 318=>148 | 319=>149 | 320=>150 | 321=>172 | 322=>173 | 337=>164 | 338=>165 | 347=>174 | 348=>175 | 349=>176 | 350=>177 | 351=>178 | 352=>179 | 353=>180 | 354=>181 | 355=>182 | 356=>183 | 357=>184 | 358=>185 | 359=>186 | 360=>189 | 361=>190 | 362=>191 | 363=>211 | 364=>208 | 365=>209 | 366=>196 | 367=>231 | n=>n,fun | 0=>0 | 1=>1 | 2=>2 | 3=>3 | 4=>4 | 5=>5 | 6=>6 | 7=>7 | 8=>8 | 9=>9 | 10=>10 | 11=>11 | 12=>12 | 13=>13 | 14=>14 | 15=>15 | 16=>16 | 17=>17 | 18=>18 | 19=>19 | 20=>20 | 21=>21 | 22=>196 | 23=>152 | 24=>150 | 25=>151 | 27=>147 | 28=>75 | 31=>72 | 37=>36 | 40=>168 | 41=>207 | 43=>169 | 46=>112 | 47=>204 | 49=>252 | 51=>202 | 52=>215 | 53=>56 | 54=>179 | 55=>149 | 57=>115 | 59=>67 | 60=>68 | 61=>77 | 63=>208 | 64=>220 | 67=>76 | 69=>223 | 70=>58 | 71=>59 | 72=>60 | 73=>113 | 74=>30 | 75=>31 | 76=>61 | 77=>62 | 80=>64 | 81=>238 | 83=>63 | 84=>134 | 85=>210 | 86=>211 | 103=>184 | 104=>55 | 105=>185 | 106=>186 | 108=>226 | 111=>65 | 113=>114 | 114=>135 | 115=>188 | 116=>189 | 117=>190 | 118=>191 | 119=>216 | 122=>187 | 123=>192 | 124=>193 | 127=>110 | 128=>194 | 131=>118 | 137=>217 | 138=>218 | 139=>219 | 143=>230 | 144=>231 | 145=>232 | 146=>205 | 150=>148 | 151=>206 | 164=>124 | 165=>146 | 166=>183 | 167=>209 | 168=>212 | 169=>213 | 170=>214 | 171=>178 | 172=>180 | 173=>181 | 174=>182 | 175=>221 | 176=>222 | 209=>224 | 210=>225 | 211=>200 | 212=>201 | 213=>203 | 214=>229 | 222=>176 | 232=>227 | 233=>228 | 238=>233 | 239=>234 | 240=>235 | 241=>236 | 242=>237 | 243=>240 | 244=>130 | 245=>241 | 246=>242 | 247=>243 | 248=>244 | 249=>245 | n=>n,fun | 1=>9 | 3=>11 | 4=>12 | 15=>13 | 16=>14 | 17=>10 | 18=>15 | 19=>16 | n=>n⟩
def kS:Go.Shelf.Ren:=⟨fun | 0=>0 | 1=>1 | 2=>2 | 99=>141 | 103=>97 | 119=>171 | 120=>167 | 129=>147 | 137=>96 | 138=>94 | 143=>95 | 145=>38 | 146=>45 | 151=>156 | 152=>166 | 156=>44 | 160=>98 | 165=>68 | 166=>32 | 169=>34 | 171=>33 | 172=>99 | 173=>79 | 174=>163 | 195=>127 | 197=>128 | 205=>170 | 206=>154 | 210=>130 | 217=>122 | 218=>129 | 219=>91 | 220=>67 | 221=>69 | 224=>124 | 225=>123 | 227=>133 | 228=>155 | 231=>131 | 232=>132 | 233=>134 | 234=>135 | 235=>136 | 236=>137 | 240=>65 | 241=>92 | 243=>66 | 244=>138 | 245=>139 | 246=>90 | 247=>158 | 260=>153 | 266=>151 | 267=>125 | 268=>93 | 271=>157 | 276=>89 | 277=>126 | 279=>159 | 280=>160 | 281=>161 | 282=>162 | 283=>118 | 284=>119 | 285=>120 | 286=>121 | 287=>168 | 314=>152 | 316=>169 | 317=>146 | 318=>148 | 319=>149 | 320=>150 | 321=>172 | 322=>173 | 337=>164 | 338=>165 | 347=>174 | 348=>175 | 349=>176 | 350=>177 | 351=>178 | 352=>179 | 353=>180 | 354=>181 | 355=>182 | 356=>183 | 357=>184 | 358=>185 | 359=>186 | 360=>189 | 361=>190 | 362=>191 | 363=>211 | 364=>208 | 365=>209 | 366=>196 | 367=>231 | n=>n,fun | 0=>0 | 1=>1 | 2=>2 | 3=>3 | 4=>4 | 5=>5 | 6=>6 | 7=>7 | 8=>8 | 9=>9 | 10=>10 | 11=>11 | 12=>12 | 13=>13 | 14=>14 | 15=>15 | 16=>16 | 17=>17 | 18=>18 | 19=>19 | 20=>20 | 21=>21 | 22=>196 | 23=>152 | 24=>150 | 25=>151 | 27=>147 | 28=>75 | 31=>72 | 37=>36 | 40=>168 | 41=>207 | 43=>169 | 46=>112 | 47=>204 | 49=>252 | 51=>202 | 52=>215 | 53=>56 | 54=>179 | 55=>149 | 57=>115 | 59=>67 | 60=>68 | 61=>77 | 63=>208 | 64=>220 | 67=>76 | 69=>223 | 70=>58 | 71=>59 | 72=>60 | 73=>113 | 74=>30 | 75=>31 | 76=>61 | 77=>62 | 80=>64 | 81=>238 | 83=>63 | 84=>134 | 85=>210 | 86=>211 | 103=>184 | 104=>55 | 105=>185 | 106=>186 | 108=>226 | 111=>65 | 113=>114 | 114=>135 | 115=>188 | 116=>189 | 117=>190 | 118=>191 | 119=>216 | 122=>187 | 123=>192 | 124=>193 | 127=>110 | 128=>194 | 131=>118 | 137=>217 | 138=>218 | 139=>219 | 143=>230 | 144=>231 | 145=>232 | 146=>205 | 150=>148 | 151=>206 | 164=>124 | 165=>146 | 166=>183 | 167=>209 | 168=>212 | 169=>213 | 170=>214 | 171=>178 | 172=>180 | 173=>181 | 174=>182 | 175=>221 | 176=>222 | 209=>224 | 210=>225 | 211=>200 | 212=>201 | 213=>203 | 214=>229 | 222=>176 | 232=>227 | 233=>228 | 238=>233 | 239=>234 | 240=>235 | 241=>236 | 242=>237 | 243=>240 | 244=>130 | 245=>241 | 246=>242 | 247=>243 | 248=>244 | 249=>245 | n=>n,fun | 1=>9 | 3=>11 | 4=>12 | 15=>13 | 16=>14 | 17=>10 | 18=>15 | 19=>16 | n=>n⟩
theorem nC:Lays.n137 Tryz.prog kS:=by
 constructor <;> first | kernel_rfl | (intro w; kernel_rfl) | (constructor <;> first | kernel_rfl | (intro w; kernel_rfl))
def kc:Go.Shelf.Ren:=⟨fun | 0=>0 | 1=>1 | 2=>2 | 99=>141 | 103=>97 | 119=>171 | 120=>167 | 129=>147 | 137=>96 | 138=>94 | 143=>95 | 145=>38 | 146=>45 | 151=>156 | 152=>166 | 156=>44 | 160=>98 | 165=>68 | 166=>32 | 169=>34 | 171=>33 | 172=>99 | 173=>79 | 174=>163 | 195=>127 | 197=>128 | 205=>170 | 206=>154 | 210=>130 | 217=>122 | 218=>129 | 219=>91 | 220=>67 | 221=>69 | 224=>124 | 225=>123 | 227=>133 | 228=>155 | 231=>131 | 232=>132 | 233=>134 | 234=>135 | 235=>136 | 236=>137 | 240=>65 | 241=>92 | 243=>66 | 244=>138 | 245=>139 | 246=>90 | 247=>158 | 260=>153 | 266=>151 | 267=>125 | 268=>93 | 271=>157 | 276=>89 | 277=>126 | 279=>159 | 280=>160 | 281=>161 | 282=>162 | 283=>118 | 284=>119 | 285=>120 | 286=>121 | 287=>168 | 314=>152 | 316=>169 | 317=>146 | 318=>148 | 319=>149 | 320=>150 | 321=>172 | 322=>173 | 337=>164 | 338=>165 | 347=>174 | 348=>175 | 349=>176 | 350=>177 | 351=>178 | 352=>179 | 353=>180 | 354=>181 | 355=>182 | 356=>183 | 357=>184 | 358=>185 | 359=>186 | 360=>189 | 361=>190 | 362=>191 | 363=>211 | 364=>208 | 365=>209 | 366=>196 | 367=>231 | n=>n,fun | 0=>0 | 1=>1 | 2=>2 | 3=>3 | 4=>4 | 5=>5 | 6=>6 | 7=>7 | 8=>8 | 9=>9 | 10=>10 | 11=>11 | 12=>12 | 13=>13 | 14=>14 | 15=>15 | 16=>16 | 17=>17 | 18=>18 | 19=>19 | 20=>20 | 21=>21 | 22=>196 | 23=>152 | 24=>150 | 25=>151 | 27=>147 | 28=>75 | 31=>72 | 37=>36 | 40=>168 | 41=>207 | 43=>169 | 46=>112 | 47=>204 | 49=>252 | 51=>202 | 52=>215 | 53=>56 | 54=>179 | 55=>149 | 57=>115 | 59=>67 | 60=>68 | 61=>77 | 63=>208 | 64=>220 | 67=>76 | 69=>223 | 70=>58 | 71=>59 | 72=>60 | 73=>113 | 74=>30 | 75=>31 | 76=>61 | 77=>62 | 80=>64 | 81=>238 | 83=>63 | 84=>134 | 85=>210 | 86=>211 | 103=>184 | 104=>55 | 105=>185 | 106=>186 | 108=>226 | 111=>65 | 113=>114 | 114=>135 | 115=>188 | 116=>189 | 117=>190 | 118=>191 | 119=>216 | 122=>187 | 123=>192 | 124=>193 | 127=>110 | 128=>194 | 131=>118 | 137=>217 | 138=>218 | 139=>219 | 143=>230 | 144=>231 | 145=>232 | 146=>205 | 150=>148 | 151=>206 | 164=>124 | 165=>146 | 166=>183 | 167=>209 | 168=>212 | 169=>213 | 170=>214 | 171=>178 | 172=>180 | 173=>181 | 174=>182 | 175=>221 | 176=>222 | 209=>224 | 210=>225 | 211=>200 | 212=>201 | 213=>203 | 214=>229 | 222=>176 | 232=>227 | 233=>228 | 238=>233 | 239=>234 | 240=>235 | 241=>236 | 242=>237 | 243=>240 | 244=>130 | 245=>241 | 246=>242 | 247=>243 | 248=>244 | 249=>245 | n=>n,fun | 1=>9 | 3=>11 | 4=>12 | 15=>13 | 16=>14 | 17=>10 | 18=>15 | 19=>16 | n=>n⟩
theorem rz:Lays.n146 Tryz.prog kc:=by
 constructor <;> first | kernel_rfl | (intro w; kernel_rfl) | (constructor <;> first | kernel_rfl | (intro w; kernel_rfl))
def oH:Go.Shelf.Ren:=⟨fun | 0=>0 | 1=>1 | 2=>2 | 99=>141 | 103=>97 | 119=>171 | 120=>167 | 129=>147 | 137=>96 | 138=>94 | 143=>95 | 145=>38 | 146=>45 | 151=>156 | 152=>166 | 156=>44 | 160=>98 | 165=>68 | 166=>32 | 169=>34 | 171=>33 | 172=>99 | 173=>79 | 174=>163 | 195=>127 | 197=>128 | 205=>170 | 206=>154 | 210=>130 | 217=>122 | 218=>129 | 219=>91 | 220=>67 | 221=>69 | 224=>124 | 225=>123 | 227=>133 | 228=>155 | 231=>131 | 232=>132 | 233=>134 | 234=>135 | 235=>136 | 236=>137 | 240=>65 | 241=>92 | 243=>66 | 244=>138 | 245=>139 | 246=>90 | 247=>158 | 260=>153 | 266=>151 | 267=>125 | 268=>93 | 271=>157 | 276=>89 | 277=>126 | 279=>159 | 280=>160 | 281=>161 | 282=>162 | 283=>118 | 284=>119 | 285=>120 | 286=>121 | 287=>168 | 314=>152 | 316=>169 | 317=>146 | 318=>148 | 319=>149 | 320=>150 | 321=>172 | 322=>173 | 337=>164 | 338=>165 | 347=>174 | 348=>175 | 349=>176 | 350=>177 | 351=>178 | 352=>179 | 353=>180 | 354=>181 | 355=>182 | 356=>183 | 357=>184 | 358=>185 | 359=>186 | 360=>189 | 361=>190 | 362=>191 | 363=>211 | 364=>208 | 365=>209 | 366=>196 | 367=>231 | n=>n,fun | 0=>0 | 1=>1 | 2=>2 | 3=>3 | 4=>4 | 5=>5 | 6=>6 | 7=>7 | 8=>8 | 9=>9 | 10=>10 | 11=>11 | 12=>12 | 13=>13 | 14=>14 | 15=>15 | 16=>16 | 17=>17 | 18=>18 | 19=>19 | 20=>20 | 21=>21 | 22=>196 | 23=>152 | 24=>150 | 25=>151 | 27=>147 | 28=>75 | 31=>72 | 37=>36 | 40=>168 | 41=>207 | 43=>169 | 46=>112 | 47=>204 | 49=>252 | 51=>202 | 52=>215 | 53=>56 | 54=>179 | 55=>149 | 57=>115 | 59=>67 | 60=>68 | 61=>77 | 63=>208 | 64=>220 | 67=>76 | 69=>223 | 70=>58 | 71=>59 | 72=>60 | 73=>113 | 74=>30 | 75=>31 | 76=>61 | 77=>62 | 80=>64 | 81=>238 | 83=>63 | 84=>134 | 85=>210 | 86=>211 | 103=>184 | 104=>55 | 105=>185 | 106=>186 | 108=>226 | 111=>65 | 113=>114 | 114=>135 | 115=>188 | 116=>189 | 117=>190 | 118=>191 | 119=>216 | 122=>187 | 123=>192 | 124=>193 | 127=>110 | 128=>194 | 131=>118 | 137=>217 | 138=>218 | 139=>219 | 143=>230 | 144=>231 | 145=>232 | 146=>205 | 150=>148 | 151=>206 | 164=>124 | 165=>146 | 166=>183 | 167=>209 | 168=>212 | 169=>213 | 170=>214 | 171=>178 | 172=>180 | 173=>181 | 174=>182 | 175=>221 | 176=>222 | 209=>224 | 210=>225 | 211=>200 | 212=>201 | 213=>203 | 214=>229 | 222=>176 | 232=>227 | 233=>228 | 238=>233 | 239=>234 | 240=>235 | 241=>236 | 242=>237 | 243=>240 | 244=>130 | 245=>241 | 246=>242 | 247=>243 | 248=>244 | 249=>245 | n=>n,fun | 1=>9 | 3=>11 | 4=>12 | 15=>13 | 16=>14 | 17=>10 | 18=>15 | 19=>16 | n=>n⟩
theorem sx:Lays.n160 Tryz.prog oH:=by
 constructor <;> first | kernel_rfl | (intro w; kernel_rfl) | (constructor <;> first | kernel_rfl | (intro w; kernel_rfl))
def oI:Go.Shelf.Ren:=⟨fun | 0=>0 | 1=>1 | 2=>2 | 99=>141 | 103=>97 | 119=>171 | 120=>167 | 129=>147 | 137=>96 | 138=>94 | 143=>95 | 145=>38 | 146=>45 | 151=>156 | 152=>166 | 156=>44 | 160=>98 | 165=>68 | 166=>32 | 169=>34 | 171=>33 | 172=>99 | 173=>79 | 174=>163 | 195=>127 | 197=>128 | 205=>170 | 206=>154 | 210=>130 | 217=>122 | 218=>129 | 219=>91 | 220=>67 | 221=>69 | 224=>124 | 225=>123 | 227=>133 | 228=>155 | 231=>131 | 232=>132 | 233=>134 | 234=>135 | 235=>136 | 236=>137 | 240=>65 | 241=>92 | 243=>66 | 244=>138 | 245=>139 | 246=>90 | 247=>158 | 260=>153 | 266=>151 | 267=>125 | 268=>93 | 271=>157 | 276=>89 | 277=>126 | 279=>159 | 280=>160 | 281=>161 | 282=>162 | 283=>118 | 284=>119 | 285=>120 | 286=>121 | 287=>168 | 314=>152 | 316=>169 | 317=>146 | 318=>148 | 319=>149 | 320=>150 | 321=>172 | 322=>173 | 337=>164 | 338=>165 | 347=>174 | 348=>175 | 349=>176 | 350=>177 | 351=>178 | 352=>179 | 353=>180 | 354=>181 | 355=>182 | 356=>183 | 357=>184 | 358=>185 | 359=>186 | 360=>189 | 361=>190 | 362=>191 | 363=>211 | 364=>208 | 365=>209 | 366=>196 | 367=>231 | n=>n,fun | 0=>0 | 1=>1 | 2=>2 | 3=>3 | 4=>4 | 5=>5 | 6=>6 | 7=>7 | 8=>8 | 9=>9 | 10=>10 | 11=>11 | 12=>12 | 13=>13 | 14=>14 | 15=>15 | 16=>16 | 17=>17 | 18=>18 | 19=>19 | 20=>20 | 21=>21 | 22=>196 | 23=>152 | 24=>150 | 25=>151 | 27=>147 | 28=>75 | 31=>72 | 37=>36 | 40=>168 | 41=>207 | 43=>169 | 46=>112 | 47=>204 | 49=>252 | 51=>202 | 52=>215 | 53=>56 | 54=>179 | 55=>149 | 57=>115 | 59=>67 | 60=>68 | 61=>77 | 63=>208 | 64=>220 | 67=>76 | 69=>223 | 70=>58 | 71=>59 | 72=>60 | 73=>113 | 74=>30 | 75=>31 | 76=>61 | 77=>62 | 80=>64 | 81=>238 | 83=>63 | 84=>134 | 85=>210 | 86=>211 | 103=>184 | 104=>55 | 105=>185 | 106=>186 | 108=>226 | 111=>65 | 113=>114 | 114=>135 | 115=>188 | 116=>189 | 117=>190 | 118=>191 | 119=>216 | 122=>187 | 123=>192 | 124=>193 | 127=>110 | 128=>194 | 131=>118 | 137=>217 | 138=>218 | 139=>219 | 143=>230 | 144=>231 | 145=>232 | 146=>205 | 150=>148 | 151=>206 | 164=>124 | 165=>146 | 166=>183 | 167=>209 | 168=>212 | 169=>213 | 170=>214 | 171=>178 | 172=>180 | 173=>181 | 174=>182 | 175=>221 | 176=>222 | 209=>224 | 210=>225 | 211=>200 | 212=>201 | 213=>203 | 214=>229 | 222=>176 | 232=>227 | 233=>228 | 238=>233 | 239=>234 | 240=>235 | 241=>236 | 242=>237 | 243=>240 | 244=>130 | 245=>241 | 246=>242 | 247=>243 | 248=>244 | 249=>245 | n=>n,fun | 1=>9 | 3=>11 | 4=>12 | 15=>13 | 16=>14 | 17=>10 | 18=>15 | 19=>16 | n=>n⟩
theorem sy:LaysM.n171 Tryz.prog oI:=by
 constructor <;> first | kernel_rfl | (intro w; kernel_rfl) | (constructor <;> first | kernel_rfl | (intro w; kernel_rfl))
def oJ:Go.Shelf.Ren:=⟨fun | 0=>0 | 1=>1 | 2=>2 | 99=>141 | 103=>97 | 119=>171 | 120=>167 | 129=>147 | 137=>96 | 138=>94 | 143=>95 | 145=>38 | 146=>45 | 151=>156 | 152=>166 | 156=>44 | 160=>98 | 165=>68 | 166=>32 | 169=>34 | 171=>33 | 172=>99 | 173=>79 | 174=>163 | 195=>127 | 197=>128 | 205=>170 | 206=>154 | 210=>130 | 217=>122 | 218=>129 | 219=>91 | 220=>67 | 221=>69 | 224=>124 | 225=>123 | 227=>133 | 228=>155 | 231=>131 | 232=>132 | 233=>134 | 234=>135 | 235=>136 | 236=>137 | 240=>65 | 241=>92 | 243=>66 | 244=>138 | 245=>139 | 246=>90 | 247=>158 | 260=>153 | 266=>151 | 267=>125 | 268=>93 | 271=>157 | 276=>89 | 277=>126 | 279=>159 | 280=>160 | 281=>161 | 282=>162 | 283=>118 | 284=>119 | 285=>120 | 286=>121 | 287=>168 | 314=>152 | 316=>169 | 317=>146 | 318=>148 | 319=>149 | 320=>150 | 321=>172 | 322=>173 | 337=>164 | 338=>165 | 347=>174 | 348=>175 | 349=>176 | 350=>177 | 351=>178 | 352=>179 | 353=>180 | 354=>181 | 355=>182 | 356=>183 | 357=>184 | 358=>185 | 359=>186 | 360=>189 | 361=>190 | 362=>191 | 363=>211 | 364=>208 | 365=>209 | 366=>196 | 367=>231 | n=>n,fun | 0=>0 | 1=>1 | 2=>2 | 3=>3 | 4=>4 | 5=>5 | 6=>6 | 7=>7 | 8=>8 | 9=>9 | 10=>10 | 11=>11 | 12=>12 | 13=>13 | 14=>14 | 15=>15 | 16=>16 | 17=>17 | 18=>18 | 19=>19 | 20=>20 | 21=>21 | 22=>196 | 23=>152 | 24=>150 | 25=>151 | 27=>147 | 28=>75 | 31=>72 | 37=>36 | 40=>168 | 41=>207 | 43=>169 | 46=>112 | 47=>204 | 49=>252 | 51=>202 | 52=>215 | 53=>56 | 54=>179 | 55=>149 | 57=>115 | 59=>67 | 60=>68 | 61=>77 | 63=>208 | 64=>220 | 67=>76 | 69=>223 | 70=>58 | 71=>59 | 72=>60 | 73=>113 | 74=>30 | 75=>31 | 76=>61 | 77=>62 | 80=>64 | 81=>238 | 83=>63 | 84=>134 | 85=>210 | 86=>211 | 103=>184 | 104=>55 | 105=>185 | 106=>186 | 108=>226 | 111=>65 | 113=>114 | 114=>135 | 115=>188 | 116=>189 | 117=>190 | 118=>191 | 119=>216 | 122=>187 | 123=>192 | 124=>193 | 127=>110 | 128=>194 | 131=>118 | 137=>217 | 138=>218 | 139=>219 | 143=>230 | 144=>231 | 145=>232 | 146=>205 | 150=>148 | 151=>206 | 164=>124 | 165=>146 | 166=>183 | 167=>209 | 168=>212 | 169=>213 | 170=>214 | 171=>178 | 172=>180 | 173=>181 | 174=>182 | 175=>221 | 176=>222 | 209=>224 | 210=>225 | 211=>200 | 212=>201 | 213=>203 | 214=>229 | 222=>176 | 232=>227 | 233=>228 | 238=>233 | 239=>234 | 240=>235 | 241=>236 | 242=>237 | 243=>240 | 244=>130 | 245=>241 | 246=>242 | 247=>243 | 248=>244 | 249=>245 | n=>n,fun | 1=>9 | 3=>11 | 4=>12 | 15=>13 | 16=>14 | 17=>10 | 18=>15 | 19=>16 | n=>n⟩
theorem sE:Lays.n172 Tryz.prog oJ:=by
 constructor <;> first | kernel_rfl | (intro w; kernel_rfl) | (constructor <;> first | kernel_rfl | (intro w; kernel_rfl))
def kR:Go.Shelf.Ren:=⟨fun | 0=>0 | 1=>1 | 2=>2 | 99=>141 | 103=>97 | 119=>171 | 120=>167 | 129=>147 | 137=>96 | 138=>94 | 143=>95 | 145=>38 | 146=>45 | 151=>156 | 152=>166 | 156=>44 | 160=>98 | 165=>68 | 166=>32 | 169=>34 | 171=>33 | 172=>99 | 173=>79 | 174=>163 | 195=>127 | 197=>128 | 205=>170 | 206=>154 | 210=>130 | 217=>122 | 218=>129 | 219=>91 | 220=>67 | 221=>69 | 224=>124 | 225=>123 | 227=>133 | 228=>155 | 231=>131 | 232=>132 | 233=>134 | 234=>135 | 235=>136 | 236=>137 | 240=>65 | 241=>92 | 243=>66 | 244=>138 | 245=>139 | 246=>90 | 247=>158 | 260=>153 | 266=>151 | 267=>125 | 268=>93 | 271=>157 | 276=>89 | 277=>126 | 279=>159 | 280=>160 | 281=>161 | 282=>162 | 283=>118 | 284=>119 | 285=>120 | 286=>121 | 287=>168 | 314=>152 | 316=>169 | 317=>146 | 318=>148 | 319=>149 | 320=>150 | 321=>172 | 322=>173 | 337=>164 | 338=>165 | 347=>174 | 348=>175 | 349=>176 | 350=>177 | 351=>178 | 352=>179 | 353=>180 | 354=>181 | 355=>182 | 356=>183 | 357=>184 | 358=>185 | 359=>186 | 360=>189 | 361=>190 | 362=>191 | 363=>211 | 364=>208 | 365=>209 | 366=>196 | 367=>231 | n=>n,fun | 0=>0 | 1=>1 | 2=>2 | 3=>3 | 4=>4 | 5=>5 | 6=>6 | 7=>7 | 8=>8 | 9=>9 | 10=>10 | 11=>11 | 12=>12 | 13=>13 | 14=>14 | 15=>15 | 16=>16 | 17=>17 | 18=>18 | 19=>19 | 20=>20 | 21=>21 | 22=>196 | 23=>152 | 24=>150 | 25=>151 | 27=>147 | 28=>75 | 31=>72 | 37=>36 | 40=>168 | 41=>207 | 43=>169 | 46=>112 | 47=>204 | 49=>252 | 51=>202 | 52=>215 | 53=>56 | 54=>179 | 55=>149 | 57=>115 | 59=>67 | 60=>68 | 61=>77 | 63=>208 | 64=>220 | 67=>76 | 69=>223 | 70=>58 | 71=>59 | 72=>60 | 73=>113 | 74=>30 | 75=>31 | 76=>61 | 77=>62 | 80=>64 | 81=>238 | 83=>63 | 84=>134 | 85=>210 | 86=>211 | 103=>184 | 104=>55 | 105=>185 | 106=>186 | 108=>226 | 111=>65 | 113=>114 | 114=>135 | 115=>188 | 116=>189 | 117=>190 | 118=>191 | 119=>216 | 122=>187 | 123=>192 | 124=>193 | 127=>110 | 128=>194 | 131=>118 | 137=>217 | 138=>218 | 139=>219 | 143=>230 | 144=>231 | 145=>232 | 146=>205 | 150=>148 | 151=>206 | 164=>124 | 165=>146 | 166=>183 | 167=>209 | 168=>212 | 169=>213 | 170=>214 | 171=>178 | 172=>180 | 173=>181 | 174=>182 | 175=>221 | 176=>222 | 209=>224 | 210=>225 | 211=>200 | 212=>201 | 213=>203 | 214=>229 | 222=>176 | 232=>227 | 233=>228 | 238=>233 | 239=>234 | 240=>235 | 241=>236 | 242=>237 | 243=>240 | 244=>130 | 245=>241 | 246=>242 | 247=>243 | 248=>244 | 249=>245 | n=>n,fun | 1=>9 | 3=>11 | 4=>12 | 15=>13 | 16=>14 | 17=>10 | 18=>15 | 19=>16 | n=>n⟩
theorem pn:Lays.n156 Tryz.prog kR:=by
 constructor <;> first | kernel_rfl | (intro w; kernel_rfl) | (constructor <;> first | kernel_rfl | (intro w; kernel_rfl))
theorem mM:Go.Proofs.Builder.Extra Tryz.prog kR:=by
 constructor <;> first | kernel_rfl | (intro w; kernel_rfl) | decide | (constructor <;> kernel_rfl)
def er (p0:ByteArray) (p1:Int):Option Int:=some (Lib.indexByte (blS p0) p1.toNat.toUInt8)
def cw (p0 p1:ByteArray):Option ByteArray:=if p0.size≤9223372036854775807∧p1.size < 4294967281∧(blS p1).all (fun b=>decide (b.toNat < 128))=true then some (mkS (Lib.trimS (blS p0) (blS p1))) else none
def dZ (p0 p1:ByteArray):Option (List ByteArray):=if p0.size < 4294967281∧1≤p1.size then some (Lib.splitB p1 0 (Lib.countB p0 p1) p0) else none
def dk (p0:Int):Option ByteArray:=if -9223372036854775808≤p0∧p0≤9223372036854775807 then some (mkS (Lib.itoa p0)) else none
def fh (p0:ByteArray):Option (Int×Er):=if p0.size≤18 then (Lib.atoi (blS p0)).map fun n=>(n,Er.nil) else none
def eu (p0:List ByteArray) (p1:ByteArray):Option ByteArray:=if p0.length≤140737488355328∧(Lib.join (p0.map blS) (blS p1)).length≤140737488355328 then some (mkS (Lib.join (p0.map blS) (blS p1))) else none
section
variable {c0:Cx} {G:Gm} {F:List En}
abbrev iY:= @Tryz.underlying104
abbrev qy:= @Tryz.underlying176
abbrev nM:= @Tryz.underlying203
abbrev rd:= @Tryz.underlying21
abbrev u_3:= @Tryz.underlying3
abbrev jV:= @Tryz.underlying31
abbrev tC:= @Tryz.underlying36
abbrev u_4:= @Tryz.underlying4
abbrev dX:= @Tryz.underlying45
abbrev u_5:= @Tryz.underlying5
abbrev dW:= @Tryz.underlying72
abbrev u_9:= @Tryz.underlying9
abbrev eS:= @Tryz.underlying92
abbrev fe:= @Tryz.underlying95
theorem jX (O0:Own c0 G F) (p0:ByteArray) (p1:Int) {r:Int} (H:er p0 p1=some r):
  Calls Tryz.prog 96 #[.string p0,.int .u8 p1] c0.w (aX c0 fun c v=>Own c G F∧v= .int .i64 r):=by
 cases H
 refine gO O0 ((Go.Proofs.Any.strings_IndexByte nC p0 p1 c0.w).mono ?_)
 rintro e w' ⟨rfl,rfl⟩
 exact ⟨rfl,eV _ _⟩
theorem gb (O0:Own c0 G F) (hT:Et c0) (p0 p1:ByteArray) {r:ByteArray} (H:cw p0 p1=some r):
  Calls Tryz.prog 98 #[.string p0,.string p1] c0.w (aX c0 fun c v=>Own c G F∧v= .string r):=by
 unfold cw at H
 split at H
 ·rename_i h
  cases H
  exact gO O0 (Go.Proofs.Any.strings_Trim_laid sx (by kernel_rfl) p0 p1 c0.w h.1 h.2.1 (Go.Proofs.ascii_of_all h.2.2))
 ·cases H
theorem iZ (O0:Own c0 G F) (hT:Et c0) (p0 p1:ByteArray) {r:List ByteArray} (H:dZ p0 p1=some r):
  Calls Tryz.prog 45 #[.string p0,.string p1] c0.w (aX c0 fun c v=>∃y1:Value,Own c G F∧v=y1∧Sl RS c y1 r):=by
 unfold dZ at H
 split at H
 ·rename_i h
  cases H
  obtain ⟨m,hm⟩:=hT.ml
  have hlen:=Lib.splitB_all p1 h.2 0 _ p0 rfl
  have hle:=Lib.countB_le p1 h.2 p0.size p0 (aB _)
  refine (Go.Proofs.Any.strings_Split rz (by kernel_rfl) p0 p1 m c0.w h.1 hm.cell h.2).mono ?_
  rintro e w' ⟨rfl,rfl⟩
  obtain ⟨c',e1,e2,e3,e4⟩:=Own.below O0 ((eV _ c0.w).alloc (aB _) (.cells ((Lib.splitB p1 0 (Lib.countB p0 p1) p0).map Value.string).toArray (kc.t 9)))
  refine ⟨_,c',rfl,e1.symm,e2,_,e3,rfl,_,_,by rw [hlen],by rw [hlen]; exact aB _,by unfold maxLen; omega,fun i x hx=>⟨_,_,[.string x],rfl,rfl,fun j u hu=>?_⟩⟩
  cases j with
  | succ j=>simp at hu
  | zero=>
   simp only [au,aQ] at hu
   subst hu
   refine e4 _ _ _ (aB _) ?_
   rw [kf _ _ _ _ _ _ (gW c0.w _),bP,fU]
   rw [show 0+i * RS.size+0=i by show 0+i * 1+0=i; omega,hx]
   rfl
 ·cases H
theorem gd (O0:Own c0 G F) (hT:Et c0) (p0:Int) {r:ByteArray} (H:dk p0=some r):
  Calls Tryz.prog 33 #[.int .i64 p0] c0.w (aX c0 fun c v=>Own c G F∧v= .string r):=by
 unfold dk at H
 split at H
 ·rename_i h
  cases H
  refine gO O0 ((Go.Proofs.Any.strconv_Itoa sy p0 h.1 h.2 c0.w hT.tb).mono ?_)
  rintro e w' ⟨rfl,k,os,rfl⟩
  refine ⟨rfl,⟨rfl,rfl,rfl,?_,fun k hk=>?_⟩⟩
  ·simp
  ·simp [Go.Sort.grow,World.drewN,Array.getElem?_append,hk]
 ·cases H
theorem nj (O0:Own c0 G F) (hT:Et c0) (p0:ByteArray) {r:Int×Er} (H:fh p0=some r): Calls Tryz.prog 99 #[.string p0] c0.w (aX c0 fun c v=>∃y1:Value,Own c G F∧v= .tuple #[.int .i64 r.1,y1]∧RE 230 87 c y1 r.2):=by
 unfold fh at H;split at H
 ·rename_i h;obtain ⟨n,hn,rfl⟩:=Option.map_eq_some_iff.1 H;refine (gO O0 (v:= .tuple #[.int .i64 n,.nilIface]) ((Go.Proofs.Any.strconv_Atoi sE p0 n h hn c0.w).mono ?_)).mono ?_
  ·rintro e w' ⟨rfl,t,rfl⟩;exact ⟨rfl,lI _ _ _⟩
  ·rintro e w' ⟨v,c,h1,h2,h3,h4,h5⟩;exact ⟨v,c,h1,h2,h3,.nilIface,h4,h5,rfl⟩
 ·cases H
theorem jv (O0:Own c0 G F) (hT:Et c0) {v1:Value} (p0:List ByteArray) (p1:ByteArray) (h1:Sl RS c0 v1 p0) {r:ByteArray} (H:eu p0 p1=some r):
  Calls Tryz.prog 44 #[v1,.string p1] c0.w (aX c0 fun c v=>Own c G F∧v= .string r):=by
 unfold eu at H
 split at H
 ·rename_i h
  cases H
  obtain ⟨a,cap,rfl,g1,g2,g4⟩:=h1
  cases p0 with
  | nil=>
   refine gO O0 ((Go.Proofs.Any.strings_Join_none pn mM a cap p1 c0.w).mono ?_)
   rintro e w' ⟨rfl,rfl⟩
   exact ⟨rfl,eV _ _⟩
  | cons x t=>
   obtain ⟨b,off,_,rfl,_,_⟩:=g4 0 x rfl
   refine gO O0 (Go.Proofs.Any.strings_Join pn mM b off cap (x :: t) p1 c0.w (fun i y hy=>?_) ?_ h.1 g1 h.2)
   ·obtain ⟨b',off',l,e,hl,hc⟩:=g4 i y hy
    cases e
    have:=(hc 0 _ (by rw [show l= [.string y] from hl]; rfl)).cell
    rwa [show off+i * RS.size+0=off+i by show off+i * 1+0=off+i; omega] at this
   ·obtain ⟨b',off',l,e,hl,hc⟩:=g4 0 x rfl
    cases e
    exact (hc 0 _ (by rw [show l= [.string x] from hl]; rfl)).lt
 ·cases H
end
end Go.Proofs.YtmncdniojmigeaaGreatDoor
namespace Go.Proofs.YtmncdniojmigeaaGreatDoor
open Go Go.Lt
set_option maxRecDepth 10000
set_option linter.unusedVariables false
attribute [local irreducible] W WL AC
def uH:List Int:=[0,1,56,2,57,49,28,3,61,58,42,50,38,29,17,4,62,47,59,36,45,43,51,22,53,39,33,30,24,18,12,5,63,55,48,27,60,41,37,16,46,35,44,21,52,32,23,11,54,26,40,15,34,20,31,10,25,14,19,9,13,8,7,6]
def Tb6 (c:Cx):Prop:=∀j x,uH[j]? = some x→Im c 16 j (.int .u8 x)
theorem Tb6.mono {c c':Cx} (h:Tb6 c) (k:c.le c'):Tb6 c':=fun j x hx=>(h j x hx).mono k
theorem Tb6.m {c c':Cx} (h:Tb6 c) (k:c.le c':=by repeat (first | assumption | refine Cx.le.trans ?_ (by assumption))):Tb6 c':=h.mono k
open Tryz
def eN (p0:Int):Option Int:=if p0=16 then some 4 else none
theorem iV {c0:Cx} {G:Gm} {F:List En} (O0:Own c0 G F) (hB:Tb6 c0) (p0:Int) {r:Int} (H:eN p0=some r):
  Calls Tryz.prog 165 #[.int .u64 p0] c0.w (aX c0 fun c v=>Own c G (F)∧v= .int .i64 r):=by
 unfold eN at H
 split at H
 ·rename_i h0
  subst h0
  cases H
  refine enter (l:=[.int .u64 16]) func165 rfl rfl rfl ?_
  refine sr ?_
  refine va (.int .i64 0) ?_
  refine wln ?_
  refine W.seq ?_
  refine sr ?_
  refine va (.int .u64 16) ?_
  refine va (.bool false) ?_
  refine wln ?_
  refine W.cond (t:=false) (by kernel_rfl) (fun h1=>by cases h1) (fun h1=>?_)
  refine W.skip ?_
  refine nrm ?_
  refine sr ?_
  refine va (.int .u64 16) ?_
  refine va (.int .u64 16) ?_
  refine va (.int .u64 18446744073709551600) ?_
  refine va (.int .u64 16) ?_
  refine va (.int .u64 4573923408821661840) ?_
  refine va (.int .u64 15) ?_
  have h2:idx uH 15=some 4:=by decide
  refine WL.val0 (v:= .pointer (some ⟨16,15,none⟩)) rfl (by kernel_rfl) ?_
  refine WL.val0 (v:= .int .u8 4) rfl (rx (by kernel_rfl) (nP u_5 rfl (hB 15 4 rfl))) ?_
  refine va (.int .i64 4) ?_
  refine va (.int .i64 4) ?_
  refine wln ?_
  refine W.ret ?_
  exact uL (v:= .int .i64 4) rfl (by kernel_rfl) ⟨_,c0,rfl,rfl,Cx.le.refl _,O0,rfl⟩
 ·cases H
end Go.Proofs.YtmncdniojmigeaaGreatDoor
namespace Go.Proofs.YtmncdniojmigeaaGreatDoor
open Go Go.Lt
set_option maxRecDepth 10000
set_option linter.unusedVariables false
attribute [local irreducible] W WL AC
def cT (p0:Int) (p1:Er):Option Er:=some (.fault p0 p1)
theorem fS {c0:Cx} {G:Gm} {F:List En} {v2:Value} (O0:Own c0 G F) (p0:Int) (p1:Er) (h1:RE 230 87 c0 v2 p1) {r:Er} (H:cT p0 p1=some r): Calls Tryz.prog 39 #[.int .i64 p0,v2] c0.w (aX c0 fun c v=>∃y1:Value,Own c G F∧v=y1∧RE 230 87 c y1 r):=by
 obtain rfl:=ao H;refine enter (l:=[.int .i64 p0,v2]) Tryz.func39 rfl rfl rfl ?_;refine W.seq ?_;refine W.region ?_;refine WL.val0 (v:= .nilIface) rfl (by kernel_rfl) ?_;refine WL.nil ?_;refine nrm ?_;refine W.seq ?_;refine W.region ?_;refine WL.val0 (v:= .int .i64 p0) rfl (by kernel_rfl) ?_;refine WL.val0 (v:=v2) rfl (by kernel_rfl) ?_;refine WL.val0 (v:= .agg #[.int .i64 p0,v2]) rfl (by rcases h1.cs3 with rfl | ⟨t,a,rfl⟩ <;> kernel_rfl) ?_;refine WL.mem rfl (Own.bx (T:=91) (vs:=[.int .i64 p0,v2]) O0 (by kernel_rfl)) ?_;rintro v5 c1 l1 ⟨b,rfl,O1,hm⟩;refine WL.val0 (v:= .iface 87 (.pointer (some ⟨b,0,none⟩))) rfl (by kernel_rfl) ?_;refine WL.val0 (v:= .iface 87 (.pointer (some ⟨b,0,none⟩))) rfl (by kernel_rfl) ?_;refine WL.nil ?_;refine nrm ?_;refine W.ret ?_;exact uL (v:= .iface 87 (.pointer (some ⟨b,0,none⟩))) rfl (by kernel_rfl) ⟨_,c1,rfl,rfl,l1,_,O1,rfl,_,_,rfl,hm 0 _ rfl,hm 1 _ rfl,h1.mono l1⟩
end Go.Proofs.YtmncdniojmigeaaGreatDoor
namespace Go.Proofs.YtmncdniojmigeaaGreatDoor
open Go Go.Lt
set_option maxRecDepth 10000
set_option linter.unusedVariables false
attribute [local irreducible] W WL AC
open Go.RowKit Go.Extern.Stop Go.Stop Go.Extern
theorem lk (t:Addr) (w:World):(ReflectliteValue.unpack (.iface 89 (.pointer (some t)))).run Tryz.prog w
  = .ok (.agg #[.pointer (some ⟨17,89,none⟩),.pointer (some ⟨w.heap.size,0,none⟩),.int .u64 150]) (w.alloc (.cells #[.pointer (some t)] 89)):=by kernel_rfl
theorem od (a:Addr) (w:World):(ReflectliteValue.methodAny (ReflectliteValue.valueError "reflectlite.Value.Type" 0) (fun t _ _ _=>ReflectliteType.toType t) #[.agg #[.pointer (some ⟨17,89,none⟩),.pointer (some a),.int .u64 150]]).run Tryz.prog w
  = .ok (.iface 154 (.agg #[.pointer (some ⟨17,89,none⟩)])) w:=by kernel_rfl
theorem ki (h:Value) (w:World):(Go.method 360 154 (.agg #[h]) "Kind").run Tryz.prog w= .ok (188,h) w:=by kernel_rfl
theorem oe (w:World):((ReflectliteType.abiMethod fun t=>(fun a:Nat=>Value.int IntKind.u8 (a:Int)) <$> Rtype.kind t) #[.pointer (some ⟨17,89,none⟩)]).run Tryz.prog w= .ok (.int .u8 22) w:=by kernel_rfl
theorem og (w:World):((ReflectliteType.abiMethod fun t=>(fun a:Nat=>Value.int IntKind.u8 (a:Int)) <$> Rtype.kind t) #[.pointer (some ⟨17,87,none⟩)]).run Tryz.prog w= .ok (.int .u8 22) w:=by kernel_rfl
theorem th (z:Sem Value) (f:TypeId→Addr→Nat→Nat→Sem Value) (v:Value):
  ReflectliteValue.method z f #[v]=(do match ←ReflectliteValue.parts v with | none=>z | some (t,a,fl)=>f t a fl (fl % 32)):=rfl
theorem nq (a:Addr) (w:World):(ReflectliteValue.parts (.agg #[.pointer (some ⟨17,89,none⟩),.pointer (some a),.int .u64 150])).run Tryz.prog w= .ok (some (89,a,150)) w:=by kernel_rfl
theorem nr (a p:Addr) (W:World) (ha:W.cell? a=some (.pointer (some p))):
  (ReflectliteValue.method (ReflectliteValue.valueError "reflectlite.Value.IsNil" 0) ReflectliteValue.isNil #[.agg #[.pointer (some ⟨17,89,none⟩),.pointer (some a),.int .u64 150]]).run Tryz.prog W= .ok (.bool false) W:=by
 rw [th];simp only [eo,nq,Result.andThen];simp [ReflectliteValue.isNil,loadVar,isAgg,underlying,Tryz.underlying89,ha,Result.andThen]
theorem kj (h:Value) (w:World):(Go.method 360 154 (.agg #[h]) "Elem").run Tryz.prog w= .ok (200,.agg #[h]) w:=by kernel_rfl
theorem gJ (h:Value) (w:World):(Go.method 360 154 (.agg #[h]) "Implements").run Tryz.prog w= .ok (201,.agg #[h]) w:=by kernel_rfl
theorem gp (h:Value) (w:World):(Go.method 360 154 (.agg #[h]) "AssignableTo").run Tryz.prog w= .ok (198,.agg #[h]) w:=by kernel_rfl
theorem oh (w:World):(ReflectliteType.method ReflectliteType.elem #[.agg #[.pointer (some ⟨17,89,none⟩)]]).run Tryz.prog w= .ok (.iface 154 (.agg #[.pointer (some ⟨17,87,none⟩)])) w:=by kernel_rfl
theorem ja (w:World):(ReflectliteType.relation "Implements" ReflectliteType.implements_ #[.agg #[.pointer (some ⟨17,87,none⟩)],.iface 154 (.agg #[.pointer (some ⟨17,31,none⟩)])]).run Tryz.prog w= .ok (.bool true) w:=by kernel_rfl
theorem pL (v:Value) (w:World):(ReflectliteType.typeOf #[.iface 87 v]).run Tryz.prog w= .ok (.iface 154 (.agg #[.pointer (some ⟨17,87,none⟩)])) w:=by kernel_rfl
theorem lZ (w:World):(ReflectliteType.relation "AssignableTo" ReflectliteType.assignableTo #[.agg #[.pointer (some ⟨17,87,none⟩)],.iface 154 (.agg #[.pointer (some ⟨17,87,none⟩)])]).run Tryz.prog w= .ok (.bool true) w:=by kernel_rfl
theorem oT (e:Addr) (w:World):(ReflectliteValue.unpack (.iface 87 (.pointer (some e)))).run Tryz.prog w
  = .ok (.agg #[.pointer (some ⟨17,87,none⟩),.pointer (some ⟨w.heap.size,0,none⟩),.int .u64 150]) (w.alloc (.cells #[.pointer (some e)] 87)):=by kernel_rfl
theorem pN (w:World):(Rtype.elem? 89).run Tryz.prog w= .ok (some 87) w:=by kernel_rfl
theorem ul (p:Addr) (w:World):(ReflectliteValue.mk 87 p ReflectliteValue.flagAddr).run Tryz.prog w= .ok (.agg #[.pointer (some ⟨17,87,none⟩),.pointer (some p),.int .u64 406]) w:=by kernel_rfl
theorem qn (a p:Addr) (W:World) (ha:W.cell? a=some (.pointer (some p))):
  (ReflectliteValue.method (ReflectliteValue.valueError "reflectlite.Value.Elem" 0) ReflectliteValue.elem #[.agg #[.pointer (some ⟨17,89,none⟩),.pointer (some a),.int .u64 150]]).run Tryz.prog W
   = .ok (.agg #[.pointer (some ⟨17,87,none⟩),.pointer (some p),.int .u64 406]) W:=by
 rw [th];simp only [eo,nq,Result.andThen];simp [ReflectliteValue.elem,loadVar,isAgg,underlying,Tryz.underlying89,ha,Result.andThen,pN,ul]
theorem vw (v x:Value):ReflectliteValue.set #[v,x]=(do
  let (some (dst,a,fl),some (src,b,_)):=(←ReflectliteValue.parts v,←ReflectliteValue.parts x)
   | unsupported (.noEntry "extern/(internal/reflectlite.Value).Set.zeroValue")
  if fl / ReflectliteValue.flagAddr % 2==0 then unsupported (.noEntry "extern/(internal/reflectlite.Value).Set.unaddressable")
  let val ←loadVar src b
  if ←Rtype.directlyAssignable dst src then storeVar dst a val
  else if ←Rtype.implements dst src then
   if (←Rtype.kind src)==20 then
    match val with
    | .nilIface=>unsupported (.noEntry "extern/reflectlite: a nil value of one interface type handed on as a value of another")
    | _=>storeVar dst a val
   else storeVar dst a (.iface src val)
  else panicString ("reflectlite.Set: value of type " ++(←Rtype.spelt src)++ " is not assignable to type " ++(←Rtype.spelt dst))
  pure (.tuple #[])):=rfl
theorem pM (a:Addr) (w:World):(ReflectliteValue.parts (.agg #[.pointer (some ⟨17,87,none⟩),.pointer (some a),.int .u64 406])).run Tryz.prog w= .ok (some (87,a,406)) w:=by kernel_rfl
theorem qm (a:Addr) (w:World):(ReflectliteValue.parts (.agg #[.pointer (some ⟨17,87,none⟩),.pointer (some a),.int .u64 150])).run Tryz.prog w= .ok (some (87,a,150)) w:=by kernel_rfl
theorem pO (w:World):(Rtype.directlyAssignable 87 87).run Tryz.prog w= .ok true w:=by kernel_rfl
theorem tg (ta b e:Addr) (old:Value) (W:World) (hb:W.cell? b=some (.pointer (some e))) (ht:W.cell? ta=some old) (hf:W.frozen? ta=false):
  (ReflectliteValue.set #[.agg #[.pointer (some ⟨17,87,none⟩),.pointer (some ta),.int .u64 406],.agg #[.pointer (some ⟨17,87,none⟩),.pointer (some b),.int .u64 150]]).run Tryz.prog W
   = .ok (.tuple #[]) (W.setCell ta (.pointer (some e))):=by
 rw [vw];simp only [eo,pM,qm,Result.andThen];simp [ReflectliteValue.flagAddr,loadVar,isAgg,underlying,Tryz.underlying87,hb,Result.andThen,pO,storeVar,Value.cells,storeCells,Addr.add];rw [run_store Tryz.prog W ta _ _ (by rfl)];simp [ht,hf]
set_option maxHeartbeats 4000000 in
theorem tn (e t:Addr) (old:Value) (w:World) (hg:w.cell? ⟨8,0,none⟩=some (.iface 154 (.agg #[.pointer (some ⟨17,31,none⟩)]))) (ht0:w.cell? t=some old) (hf0:w.frozen? t=false):
  Calls Tryz.prog 53 #[.iface 87 (.pointer (some e)),.iface 89 (.pointer (some t))] w fun ev w'=>ev= .returned (.bool true)∧w'=((((w.alloc (.cells #[.pointer (some t)] 89)).alloc (.cells #[.pointer (some ⟨17,89,none⟩),.pointer (some ⟨w.heap.size,0,none⟩),.int .u64 150] 127)).alloc (.cells #[.pointer (some ⟨17,89,none⟩),.pointer (some ⟨w.heap.size,0,none⟩),.int .u64 150] 127)).alloc (.cells #[.pointer (some e)] 87)).setCell t (.pointer (some e)):=by
 have h6:= @aD Tryz.prog 75 _ (fun args=>ReflectliteValue.unpack (args.getD 0 (.tuple #[]))) Tryz.func75 (by kernel_rfl) (by kernel_rfl) (by kernel_rfl) (by kernel_rfl);have h7:= @aD Tryz.prog 76 _ (ReflectliteValue.methodAny (ReflectliteValue.valueError "reflectlite.Value.Type" 0) (fun t _ _ _=>ReflectliteType.toType t)) Tryz.func76 (by kernel_rfl) (by kernel_rfl) (by kernel_rfl) (by kernel_rfl);have h8:= @aD Tryz.prog 77 _ (ReflectliteValue.method (ReflectliteValue.valueError "reflectlite.Value.IsNil" 0) ReflectliteValue.isNil) Tryz.func77 (by kernel_rfl) (by kernel_rfl) (by kernel_rfl) (by kernel_rfl);have h27:= @aD Tryz.prog 188 _ (ReflectliteType.abiMethod fun t=>do pure (.int .u8 (←Rtype.kind t))) Tryz.func188 (by kernel_rfl) (by kernel_rfl) (by kernel_rfl) (by kernel_rfl);have h37:= @aD Tryz.prog 200 _ (ReflectliteType.method ReflectliteType.elem) Tryz.func200 (by kernel_rfl) (by kernel_rfl) (by kernel_rfl) (by kernel_rfl);have h38:= @aD Tryz.prog 201 _ (ReflectliteType.relation "Implements" ReflectliteType.implements_) Tryz.func201 (by kernel_rfl) (by kernel_rfl) (by kernel_rfl) (by kernel_rfl);have h10:= @aD Tryz.prog 73 _ ReflectliteType.typeOf Tryz.func73 (by kernel_rfl) (by kernel_rfl) (by kernel_rfl) (by kernel_rfl);have h35:= @aD Tryz.prog 198 _ (ReflectliteType.relation "AssignableTo" ReflectliteType.assignableTo) Tryz.func198 (by kernel_rfl) (by kernel_rfl) (by kernel_rfl) (by kernel_rfl);have h11:= @aD Tryz.prog 100 _ (ReflectliteValue.method (ReflectliteValue.valueError "reflectlite.Value.Elem" 0) ReflectliteValue.elem) Tryz.func100 (by kernel_rfl) (by kernel_rfl) (by kernel_rfl) (by kernel_rfl);have h12:= @aD Tryz.prog 101 _ ReflectliteValue.set Tryz.func101 (by kernel_rfl) (by kernel_rfl) (by kernel_rfl) (by kernel_rfl);have tO:=pL;have mA:=gp;have a25:=lZ;have v25:=oT;have f6:=lk;have f7:=od;have mK:=ki;have mE:=kj;have mI:=gJ;have k27:=oe;have k25:=og;have e27:=oh;have i25:=ja;have n8:=nr ⟨w.heap.size,0,none⟩ t ((w.alloc (.cells #[.pointer (some t)] 89)).alloc (.cells #[.pointer (some ⟨17,89,none⟩),.pointer (some ⟨w.heap.size,0,none⟩),.int .u64 150] 127)) (by simp);have hlt:8 < w.heap.size:=by
  rcases aG 8 w.heap.size with h | h
  ·exact h
  ·simp [World.cell?,bH h] at hg
 have hg2:((w.alloc (.cells #[.pointer (some t)] 89)).alloc (.cells #[.pointer (some ⟨17,89,none⟩),.pointer (some ⟨w.heap.size,0,none⟩),.int .u64 150] 127)).cell? ⟨8,0,none⟩=some (.iface 154 (.agg #[.pointer (some ⟨17,31,none⟩)])):=by
  rw [cz _ _ ⟨8,0,none⟩ (by simp; omega),cz _ _ ⟨8,0,none⟩ hlt]; exact hg
 have htl:t.block < w.heap.size:=by
  rcases aG t.block w.heap.size with h | h
  ·exact h
  ·simp [World.cell?,bH h] at ht0
 have el:=qn ⟨w.heap.size,0,none⟩ t (((w.alloc (.cells #[.pointer (some t)] 89)).alloc (.cells #[.pointer (some ⟨17,89,none⟩),.pointer (some ⟨w.heap.size,0,none⟩),.int .u64 150] 127)).alloc (.cells #[.pointer (some ⟨17,89,none⟩),.pointer (some ⟨w.heap.size,0,none⟩),.int .u64 150] 127)) (by rw [cz _ _ ⟨w.heap.size,0,none⟩ (by simp; omega)]; simp);have st:=tg t ⟨w.heap.size+1+1+1,0,none⟩ e old ((((w.alloc (.cells #[.pointer (some t)] 89)).alloc (.cells #[.pointer (some ⟨17,89,none⟩),.pointer (some ⟨w.heap.size,0,none⟩),.int .u64 150] 127)).alloc (.cells #[.pointer (some ⟨17,89,none⟩),.pointer (some ⟨w.heap.size,0,none⟩),.int .u64 150] 127)).alloc (.cells #[.pointer (some e)] 87))
  (by rw [World.cell?_alloc_at _ _ _ _ (by simp)]; rfl)
  (by rw [cz _ _ t (by simp; omega),cz _ _ t (by simp; omega),cz _ _ t (by simp; omega),cz _ _ t htl]; exact ht0)
  (by rw [gK _ _ t (by simp; omega),gK _ _ t (by simp; omega),gK _ _ t (by simp; omega),gK _ _ t (cF htl)]; exact hf0)
 go_enter Tryz.func53,Tryz.ntmps53
 go_wp2
 refine wp_loop_rounds 1 ?_;rw [rounds_succ]
 go_wp2
 go_ret
 exact ⟨rfl,rfl⟩
theorem ql (v:Value) (w:World):(ReflectliteType.typeOf #[.iface 230 v]).run Tryz.prog w= .ok (.iface 154 (.agg #[.pointer (some ⟨17,230,none⟩)])) w:=by kernel_rfl
theorem nt (w:World):(ReflectliteType.relation "AssignableTo" ReflectliteType.assignableTo #[.agg #[.pointer (some ⟨17,230,none⟩)],.iface 154 (.agg #[.pointer (some ⟨17,87,none⟩)])]).run Tryz.prog w= .ok (.bool false) w:=by kernel_rfl
theorem tj (v:Value) (xT:TypeId) (w:World):(Instr.typeAssert (.iface 230 v) xT 165 true).run Tryz.prog w= .ok (.tuple #[.nilIface,.bool false]) w:=run_typeAssert_lacksB Tryz.underlying165 (by kernel_rfl) (by kernel_rfl) v xT w
theorem oU (v:Value) (xT:TypeId) (w:World):(Instr.typeAssert (.iface 230 v) xT 159 true).run Tryz.prog w= .ok (.tuple #[.nilIface,.bool false]) w:=run_typeAssert_lacksB Tryz.underlying159 (by kernel_rfl) (by kernel_rfl) v xT w
theorem nK (v:Value) (xT:TypeId) (w:World):(Instr.typeAssert (.iface 230 v) xT 160 true).run Tryz.prog w= .ok (.tuple #[.nilIface,.bool false]) w:=run_typeAssert_lacksB Tryz.underlying160 (by kernel_rfl) (by kernel_rfl) v xT w
set_option maxHeartbeats 4000000 in
theorem um (e t:Addr) (old:Value) (w:World) (hg:w.cell? ⟨8,0,none⟩=some (.iface 154 (.agg #[.pointer (some ⟨17,31,none⟩)]))) (ht0:w.cell? t=some old):
  Calls Tryz.prog 53 #[.iface 230 (.pointer (some e)),.iface 89 (.pointer (some t))] w fun ev w'=>ev= .returned (.bool false)∧w'=((w.alloc (.cells #[.pointer (some t)] 89)).alloc (.cells #[.pointer (some ⟨17,89,none⟩),.pointer (some ⟨w.heap.size,0,none⟩),.int .u64 150] 127)).alloc (.cells #[.pointer (some ⟨17,89,none⟩),.pointer (some ⟨w.heap.size,0,none⟩),.int .u64 150] 127):=by
 have h6:= @aD Tryz.prog 75 _ (fun args=>ReflectliteValue.unpack (args.getD 0 (.tuple #[]))) Tryz.func75 (by kernel_rfl) (by kernel_rfl) (by kernel_rfl) (by kernel_rfl);have h7:= @aD Tryz.prog 76 _ (ReflectliteValue.methodAny (ReflectliteValue.valueError "reflectlite.Value.Type" 0) (fun t _ _ _=>ReflectliteType.toType t)) Tryz.func76 (by kernel_rfl) (by kernel_rfl) (by kernel_rfl) (by kernel_rfl);have h8:= @aD Tryz.prog 77 _ (ReflectliteValue.method (ReflectliteValue.valueError "reflectlite.Value.IsNil" 0) ReflectliteValue.isNil) Tryz.func77 (by kernel_rfl) (by kernel_rfl) (by kernel_rfl) (by kernel_rfl);have h27:= @aD Tryz.prog 188 _ (ReflectliteType.abiMethod fun t=>do pure (.int .u8 (←Rtype.kind t))) Tryz.func188 (by kernel_rfl) (by kernel_rfl) (by kernel_rfl) (by kernel_rfl);have h37:= @aD Tryz.prog 200 _ (ReflectliteType.method ReflectliteType.elem) Tryz.func200 (by kernel_rfl) (by kernel_rfl) (by kernel_rfl) (by kernel_rfl);have h38:= @aD Tryz.prog 201 _ (ReflectliteType.relation "Implements" ReflectliteType.implements_) Tryz.func201 (by kernel_rfl) (by kernel_rfl) (by kernel_rfl) (by kernel_rfl);have h10:= @aD Tryz.prog 73 _ ReflectliteType.typeOf Tryz.func73 (by kernel_rfl) (by kernel_rfl) (by kernel_rfl) (by kernel_rfl);have h35:= @aD Tryz.prog 198 _ (ReflectliteType.relation "AssignableTo" ReflectliteType.assignableTo) Tryz.func198 (by kernel_rfl) (by kernel_rfl) (by kernel_rfl) (by kernel_rfl);have h11:= @aD Tryz.prog 100 _ (ReflectliteValue.method (ReflectliteValue.valueError "reflectlite.Value.Elem" 0) ReflectliteValue.elem) Tryz.func100 (by kernel_rfl) (by kernel_rfl) (by kernel_rfl) (by kernel_rfl);have h12:= @aD Tryz.prog 101 _ ReflectliteValue.set Tryz.func101 (by kernel_rfl) (by kernel_rfl) (by kernel_rfl) (by kernel_rfl);have tO:=ql;have mA:=gp;have a25:=nt;have n0:=tj;have n1:=oU;have n2:=nK;have f6:=lk;have f7:=od;have mK:=ki;have mE:=kj;have mI:=gJ;have k27:=oe;have k25:=og;have e27:=oh;have i25:=ja;have n8:=nr ⟨w.heap.size,0,none⟩ t ((w.alloc (.cells #[.pointer (some t)] 89)).alloc (.cells #[.pointer (some ⟨17,89,none⟩),.pointer (some ⟨w.heap.size,0,none⟩),.int .u64 150] 127)) (by simp);have hlt:8 < w.heap.size:=by
  rcases aG 8 w.heap.size with h | h
  ·exact h
  ·simp [World.cell?,bH h] at hg
 have hg2:((w.alloc (.cells #[.pointer (some t)] 89)).alloc (.cells #[.pointer (some ⟨17,89,none⟩),.pointer (some ⟨w.heap.size,0,none⟩),.int .u64 150] 127)).cell? ⟨8,0,none⟩=some (.iface 154 (.agg #[.pointer (some ⟨17,31,none⟩)])):=by
  rw [cz _ _ ⟨8,0,none⟩ (by simp; omega),cz _ _ ⟨8,0,none⟩ hlt]; exact hg
 have htl:t.block < w.heap.size:=by
  rcases aG t.block w.heap.size with h | h
  ·exact h
  ·simp [World.cell?,bH h] at ht0
 go_enter Tryz.func53,Tryz.ntmps53
 go_wp2
 refine wp_loop_rounds 1 ?_;rw [rounds_succ]
 go_wp2
 go_ret
 exact ⟨rfl,rfl⟩
structure bz (w w':World) (t:Nat):Prop where
 os:w'.os=w.os
 output:w'.output=w.output
 size:w.heap.size≤w'.heap.size
 block:∀k,k < w.heap.size→k≠t→w'.heap[k]? = w.heap[k]?
 frz:∀a,a.block < w.heap.size→w'.frozen? a=w.frozen? a
theorem bz.one (w:World) (v:Array Value) (T:TypeId) (t:Nat):bz w (w.alloc (.cells v T)) t:=
 ⟨rfl,rfl,by simp,fun k hk _=>aY _ _ _ hk,fun a _=>tr _ _ _ _⟩
theorem bz.set (w:World) (t:Nat) (v:Value):bz w (w.setCell ⟨t,0,none⟩ v) t:=
 ⟨rfl,rfl,by simp [World.setCell],fun k hk hne=>by
  show (w.heap.modify t _)[k]? = _;rw [fL,ag fun h=>hne h.symm],fun a _=>World.frozen?_setCell _ _ _ _⟩
theorem bz.trans {w w' w'':World} {t:Nat} (h:bz w w' t) (k:bz w' w'' t):bz w w'' t:=
 ⟨k.os.trans h.os,k.output.trans h.output,dI h.size k.size,fun i hi hn=>(k.block i (bJ hi h.size) hn).trans (h.block i hi hn),
  fun a ha=>(k.frz a (bJ ha h.size)).trans (h.frz a ha)⟩
theorem bz.cell {w w':World} {t:Nat} (h:bz w w' t) {k:Nat} (o:Nat) (hk:k < w.heap.size) (hn:k≠t):w'.cell? ⟨k,o,none⟩=w.cell? ⟨k,o,none⟩:=
 cy (w:=w) (a:=⟨k,o,none⟩) (h.block k hk hn)
theorem qX (e:Addr) (tb:Nat) (w:World) (hg:w.cell? ⟨8,0,none⟩=some (.iface 154 (.agg #[.pointer (some ⟨17,31,none⟩)]))) (ht0:w.heap[tb]? = some (.cells #[.pointer none] 87 (0,0))):
  Calls Tryz.prog 53 #[.iface 87 (.pointer (some e)),.iface 89 (.pointer (some ⟨tb,0,none⟩))] w fun ev w'=>ev= .returned (.bool true)∧w'.cell? ⟨tb,0,none⟩=some (.pointer (some e))∧bz w w' tb:=by
 have hlt:tb < w.heap.size:=(Array.getElem?_eq_some_iff.1 ht0).1;have h1:∀o,w.cell? ⟨tb,o,none⟩=(#[Value.pointer none]:Array Value)[o]? :=fun o=>by unfold World.cell?; rw [ht0]; rfl
 refine (tn e ⟨tb,0,none⟩ (.pointer none) w hg (by rw [h1]; rfl) (by unfold World.frozen?; rw [ht0]; rfl)).mono ?_;rintro ev w' ⟨rfl,rfl⟩;have hk:=((((bz.one w #[.pointer (some ⟨tb,0,none⟩)] 89 tb).trans (bz.one _ #[.pointer (some ⟨17,89,none⟩),.pointer (some ⟨w.heap.size,0,none⟩),.int .u64 150] 127 tb)).trans
  (bz.one _ #[.pointer (some ⟨17,89,none⟩),.pointer (some ⟨w.heap.size,0,none⟩),.int .u64 150] 127 tb)).trans (bz.one _ #[.pointer (some e)] 87 tb))
 refine ⟨rfl,?_,hk.trans (bz.set _ _ _)⟩;have h2:((((w.alloc (.cells #[.pointer (some ⟨tb,0,none⟩)] 89)).alloc (.cells #[.pointer (some ⟨17,89,none⟩),.pointer (some ⟨w.heap.size,0,none⟩),.int .u64 150] 127)).alloc (.cells #[.pointer (some ⟨17,89,none⟩),.pointer (some ⟨w.heap.size,0,none⟩),.int .u64 150] 127)).alloc (.cells #[.pointer (some e)] 87)).heap[tb]? = some (.cells #[.pointer none] 87 (0,0)):=by
  rw [aY _ _ _ (by simp; omega),aY _ _ _ (by simp; omega),aY _ _ _ (by simp; omega),aY _ _ _ hlt];exact ht0
 unfold World.cell? World.setCell;rw [fL,ai rfl,h2];rfl
set_option maxRecDepth 1000000 in
theorem tf {w:World} {fb:Nat} {i:Int} (hg:w.cell? ⟨8,0,none⟩=some (.iface 154 (.agg #[.pointer (some ⟨17,31,none⟩)]))) (h0:w.cell? ⟨fb,0,none⟩=some (.int .i64 i)):
  Calls Tryz.prog 22 #[.iface 87 (.pointer (some ⟨fb,0,none⟩))] w fun ev w'=>ev= .returned (.int .i64 i)∧bz w w' w.heap.size:=by
 have hlt:∀{b:Nat} {v:Value},w.cell? ⟨b,0,none⟩=some v→b < w.heap.size:=fun {b v} h=>by
  rcases aG b w.heap.size with h2 | h2
  ·exact h2
  ·simp [World.cell?,bH h2] at h
 have hk1:=bz.one w #[.pointer none] 87 w.heap.size;have hg1:=hk1.cell (k:=8) 0 (hlt hg) (cF (hlt hg));have hcon:=qX ⟨fb,0,none⟩ w.heap.size (w.alloc (.cells #[.pointer none] 87)) (hg1.trans hg) (gW w _);have hfb:=hlt h0
 go_enter Tryz.func22,Tryz.ntmps22
 go_wp2_with (first | (go_at_call 53; refine hcon.mono ?_; rintro ev w' ⟨rfl,hc,hk⟩; have h3:=((hk1.trans hk).cell 0 hfb (cF hfb)).trans h0) | go_in)
 go_ret
 exact ⟨rfl,hk1.trans hk⟩
theorem tl (e:Addr) (tb:Nat) (w:World) (hg:w.cell? ⟨8,0,none⟩=some (.iface 154 (.agg #[.pointer (some ⟨17,31,none⟩)]))) (ht0:w.heap[tb]? = some (.cells #[.pointer none] 87 (0,0))):
  Calls Tryz.prog 53 #[.iface 230 (.pointer (some e)),.iface 89 (.pointer (some ⟨tb,0,none⟩))] w fun ev w'=>ev= .returned (.bool false)∧bz w w' w.heap.size:=by
 have h1:∀o,w.cell? ⟨tb,o,none⟩=(#[Value.pointer none]:Array Value)[o]? :=fun o=>by unfold World.cell?; rw [ht0]; rfl
 refine (um e ⟨tb,0,none⟩ (.pointer none) w hg (by rw [h1]; rfl)).mono ?_;rintro ev w' ⟨rfl,rfl⟩;exact ⟨rfl,((bz.one w #[.pointer (some ⟨tb,0,none⟩)] 89 _).trans (bz.one _ #[.pointer (some ⟨17,89,none⟩),.pointer (some ⟨w.heap.size,0,none⟩),.int .u64 150] 127 _)).trans (bz.one _ #[.pointer (some ⟨17,89,none⟩),.pointer (some ⟨w.heap.size,0,none⟩),.int .u64 150] 127 _)⟩
set_option maxRecDepth 1000000 in
theorem qW {w:World} {e:Addr} (hg:w.cell? ⟨8,0,none⟩=some (.iface 154 (.agg #[.pointer (some ⟨17,31,none⟩)]))):
  Calls Tryz.prog 22 #[.iface 230 (.pointer (some e))] w fun ev w'=>ev= .returned (.int .i64 (-1))∧bz w w' w.heap.size:=by
 have hlt:∀{b:Nat} {v:Value},w.cell? ⟨b,0,none⟩=some v→b < w.heap.size:=fun {b v} h=>by
  rcases aG b w.heap.size with h2 | h2
  ·exact h2
  ·simp [World.cell?,bH h2] at h
 have hk1:=bz.one w #[.pointer none] 87 w.heap.size;have hg1:=hk1.cell (k:=8) 0 (hlt hg) (cF (hlt hg));have hcon:=tl e w.heap.size (w.alloc (.cells #[.pointer none] 87)) (hg1.trans hg) (gW w _)
 go_enter Tryz.func22,Tryz.ntmps22
 go_wp2_with (first | (go_at_call 53; refine hcon.mono ?_; rintro ev w' ⟨rfl,hk⟩) | go_in)
 go_ret
 exact ⟨rfl,⟨hk1.os▸ hk.os,hk1.output▸ hk.output,dI hk1.size hk.size,fun k h hn=>(hk.block k (bJ h hk1.size) (by simp; omega)).trans (hk1.block k h hn),fun a ha=>(hk.frz a (bJ ha hk1.size)).trans (hk1.frz a ha)⟩⟩
def iK (p0:Er):Option Int:=match p0 with
 | .fault i _=>some i
 | .sent _=>some (-1)
 | _=>none
def Eh (c:Cx):Prop:=Im c 8 0 (.iface 154 (.agg #[.pointer (some ⟨17,31,none⟩)]))
theorem Eh.m {c c':Cx} (h:Eh c) (k:c.le c':=by repeat (first | assumption | refine Cx.le.trans ?_ (by assumption))):Eh c':=Im.mono h k
theorem pJ {c0:Cx} {G:Gm} {F:List En} {v1:Value} (O0:Own c0 G F) (hU:Eh c0) (p0:Er) (h1:RE 230 87 c0 v1 p0) {r:Int} (H:iK p0=some r): Calls Tryz.prog 22 #[v1] c0.w (aX c0 fun c v=>Own c G F∧v= .int .i64 r):=by
 have keep:∀w',bz c0.w w' c0.w.heap.size→c0.but (fun _=>False) ⟨w',c0.A,c0.t⟩:=fun w' hk=>⟨⟨hk.os,hk.output,hk.size,fun k o h hA=>⟨hk.cell o h (cF h),hA⟩,fun k h _=>hk.block k h (cF h),fun a h _=>hk.frz a h,fun _ _ _ h=>h⟩,rfl,
   fun k h _=>⟨hk.block k h (cF h),fun _=>gF⟩⟩
 unfold iK at H;split at H
 ·cases H;obtain ⟨b,u,rfl,h2,_,_⟩:=h1;refine (tf hU.cell h2.cell).mono ?_;rintro e w' ⟨rfl,hk⟩;exact ⟨_,⟨w',c0.A,c0.t⟩,rfl,rfl,(keep w' hk).le,O0.keep (keep w' hk),rfl⟩
 ·cases H;obtain ⟨a,rfl,_,_⟩:=h1;refine (qW hU.cell).mono ?_;rintro e w' ⟨rfl,hk⟩;exact ⟨_,⟨w',c0.A,c0.t⟩,rfl,rfl,(keep w' hk).le,O0.keep (keep w' hk),rfl⟩
 ·cases H
end Go.Proofs.YtmncdniojmigeaaGreatDoor
namespace Go.Proofs.YtmncdniojmigeaaGreatDoor
open Go Go.Lt
set_option maxRecDepth 10000
set_option linter.unusedVariables false
attribute [local irreducible] W WL AC
open Go.RowKit Go.Extern.Stop Go.Stop Go.Extern
set_option maxRecDepth 1000000 in
theorem mt {w:World} {fb:Nat} {u:Value} {r:Int} (hg:w.cell? ⟨8,0,none⟩=some (.iface 154 (.agg #[.pointer (some ⟨17,31,none⟩)]))) (h0:w.cell? ⟨fb,1,none⟩=some u)
  (hAt:∀w',bz w w' w.heap.size→Calls Tryz.prog 22 #[u] w' fun ev w''=>ev= .returned (.int .i64 r)∧bz w' w'' w'.heap.size):
  Calls Tryz.prog 31 #[.iface 87 (.pointer (some ⟨fb,0,none⟩))] w fun ev w'=>ev= .returned (.int .i64 r)∧bz w w' w.heap.size:=by
 have hlt:∀{b o:Nat} {v:Value},w.cell? ⟨b,o,none⟩=some v→b < w.heap.size:=fun {b o v} h=>by
  rcases aG b w.heap.size with h2 | h2
  ·exact h2
  ·simp [World.cell?,bH h2] at h
 have hk1:=bz.one w #[.pointer none] 87 w.heap.size;have hg1:=hk1.cell (k:=8) 0 (hlt hg) (cF (hlt hg));have hcon:=qX ⟨fb,0,none⟩ w.heap.size (w.alloc (.cells #[.pointer none] 87)) (hg1.trans hg) (gW w _);have hfb:=hlt h0
 go_enter Tryz.func31,Tryz.ntmps31
 go_wp2_with (first | (go_at_call 53; refine hcon.mono ?_; rintro ev w' ⟨rfl,hc,hk⟩; have h3:=((hk1.trans hk).cell 1 hfb (cF hfb)).trans h0; have hk2:=hk1.trans hk) | (go_at_call 22; refine (hAt _ hk2).mono ?_; rintro ev w' ⟨rfl,hk3⟩) | go_in)
 go_ret
 exact ⟨rfl,⟨hk3.os.trans hk2.os,hk3.output.trans hk2.output,dI hk2.size hk3.size,fun k h hn=>(hk3.block k (bJ h hk2.size) (by have:=hk2.size; omega)).trans (hk2.block k h hn),fun a ha=>(hk3.frz a (bJ ha hk2.size)).trans (hk2.frz a ha)⟩⟩
def fB (p0:Er):Option Int:=match p0 with
 | .fault _ (.fault i _)=>some i
 | .fault _ (.sent _)=>some (-1)
 | _=>none
theorem lg {c0:Cx} {G:Gm} {F:List En} {v1:Value} (O0:Own c0 G F) (hU:Eh c0) (p0:Er) (h1:RE 230 87 c0 v1 p0) {r:Int} (H:fB p0=some r): Calls Tryz.prog 31 #[v1] c0.w (aX c0 fun c v=>Own c G F∧v= .int .i64 r):=by
 have keep:∀w',bz c0.w w' c0.w.heap.size→c0.but (fun _=>False) ⟨w',c0.A,c0.t⟩:=fun w' hk=>⟨⟨hk.os,hk.output,hk.size,fun k o h hA=>⟨hk.cell o h (cF h),hA⟩,fun k h _=>hk.block k h (cF h),fun a h _=>hk.frz a h,fun _ _ _ h=>h⟩,rfl,
   fun k h _=>⟨hk.block k h (cF h),fun _=>gF⟩⟩
 unfold fB at H;split at H
 ·cases H;obtain ⟨b,u,rfl,_,h2,b',u',rfl,h4,_,_⟩:=h1;refine (mt (r:=r) hU.cell h2.cell fun w' hk=>?_).mono ?_
  ·exact tf (((hk.cell 0 hU.lt (cF hU.lt)).trans hU.cell)) ((hk.cell 0 h4.lt (cF h4.lt)).trans h4.cell)
  ·rintro e w' ⟨rfl,hk⟩;exact ⟨_,⟨w',c0.A,c0.t⟩,rfl,rfl,(keep w' hk).le,O0.keep (keep w' hk),rfl⟩
 ·cases H;obtain ⟨b,u,rfl,_,h2,a,rfl,_,_⟩:=h1;refine (mt (r:= -1) hU.cell h2.cell fun w' hk=>?_).mono ?_
  ·exact qW (((hk.cell 0 hU.lt (cF hU.lt)).trans hU.cell))
  ·rintro e w' ⟨rfl,hk⟩;exact ⟨_,⟨w',c0.A,c0.t⟩,rfl,rfl,(keep w' hk).le,O0.keep (keep w' hk),rfl⟩
 ·cases H
end Go.Proofs.YtmncdniojmigeaaGreatDoor
namespace Go.Proofs.YtmncdniojmigeaaGreatDoor
open Go Go.Lt
set_option maxRecDepth 10000
set_option linter.unusedVariables false
attribute [local irreducible] W WL AC
open Tryz
variable {c0:Cx} {G:Gm} {F:List En} {sg:Sto} {v1 v2 v3 v4 v5 v6 v7 v8 v9 v10 v11 v12 v13 v14 v15 v16 v17 v18 v19 v20 v21 v22 v23 v24 v25 v26 v27 v28 v29 v30 v31 v32 v33 v34 v35 v36 v37 v38 v39 v40 v41 v42 v43 v44 v45 v46 v47 v48 v49 v50 v51 v52 v53 v54 v55 v56 v57 v58 v59 v60:Value}
def ga (p0:Int):Option (ByteArray):=
 if (decide (p0 < 10))=true then
 (dY (⟨#[48,49,50,51,52,53,54,55,56,57,97,98,99,100,101,102,103,104,105,106,107,108,109,110,111,112,113,114,115,116,117,118,119,120,121,122]⟩:ByteArray) p0 (w64 (p0+1))).bind fun b=>
 some b
 else
 (dY (⟨#[48,48,48,49,48,50,48,51,48,52,48,53,48,54,48,55,48,56,48,57,49,48,49,49,49,50,49,51,49,52,49,53,49,54,49,55,49,56,49,57,50,48,50,49,50,50,50,51,50,52,50,53,50,54,50,55,50,56,50,57,51,48,51,49,51,50,51,51,51,52,51,53,51,54,51,55,51,56,51,57,52,48,52,49,52,50,52,51,52,52,52,53,52,54,52,55,52,56,52,57,53,48,53,49,53,50,53,51,53,52,53,53,53,54,53,55,53,56,53,57,54,48,54,49,54,50,54,51,54,52,54,53,54,54,54,55,54,56,54,57,55,48,55,49,55,50,55,51,55,52,55,53,55,54,55,55,55,56,55,57,56,48,56,49,56,50,56,51,56,52,56,53,56,54,56,55,56,56,56,57,57,48,57,49,57,50,57,51,57,52,57,53,57,54,57,55,57,56,57,57]⟩:ByteArray) (w64 (p0 * 2)) (w64 ((w64 (p0 * 2))+2))).bind fun a=>
 some a
theorem la (e:Own c0 G F) (a:Int) {r:ByteArray} (H:ga a=some r): Calls prog 118 #[I a] c0.w (aX c0 fun c v=>Own c G (F)∧v= .string r):=by
 unfold ga at H;refine en func118 rfl rfl (sr (va (.string (⟨#[]⟩:ByteArray)) (wln (W.seq (sr (va (I a) (va (B (decide (a < 10))) (wln (cn H (fun f H=>?_) (fun f H=>?_))))))))))
 ·refine sr (vv (I a) (va (I (w64 (a+1))) (bn H fun d g H=>vr (.string d) (rx (by kernel_rfl) (bU (k:= .i64) (k':= .i64) u_9 g _)) (va (.string d) (wln (W.ret (thr ?_)))))));obtain rfl:=si H;exact r1 (qq c0 ⟨e,rfl⟩)
 refine W.skip (nrm (sr (va (I a) (va (I (w64 (a * 2))) (va (I a) (va (I (w64 (a * 2))) (va (I (w64 ((w64 (a * 2))+2))) (bn H fun b h H=>vr (.string b) (rx (by kernel_rfl) (bU (k:= .i64) (k':= .i64) u_9 h _)) (va (.string b) (wln (W.ret ?_)))))))))));obtain rfl:=si H;exact r1 (qq c0 ⟨e,rfl⟩)
def dh (p0:Int):Option (Bool):=
 some ((mY .i64 p0 (w64 (p0 - 1)))==0)
theorem iE (b:Own c0 G F) (a:Int) {r:Bool} (H:dh a=some r): Calls prog 149 #[I a] c0.w (aX c0 fun c v=>Own c G (F)∧v=B r):=by
 unfold dh at H;refine en func149 rfl rfl (sr (va (B false) (wln (sr (vv (I a) (va (I (w64 (a - 1))) (va (I (mY .i64 a (w64 (a - 1)))) (vv (B ((mY .i64 a (w64 (a - 1)))==0)) (wln (W.ret ?_))))))))));obtain rfl:=si H;exact r1 (qq c0 ⟨b,rfl⟩)
def ei (p0:Int):Option (Int):=
 if false=true then
 none
 else
 (eN p0).bind fun a=>
 some a
theorem jH (e:Own c0 G F) (hB:Tb6 c0) (a:Int) {r:Int} (H:ei a=some r): Calls prog 150 #[.int .u64 a] c0.w (aX c0 fun c v=>Own c G (F)∧v=I r):=by
 unfold ei at H;refine en func150 rfl rfl (sr (va (I 0) (wln (W.seq (W.cond (t:=false) (by kernel_rfl) (fun b=>?_) (fun b=>?_))))))
 ·cases b
 have H:=ie b H;refine W.skip (nrm (sr (va (.int .u64 a) (bn H fun d h H=>cl (iV e hB a h) ?_))));rintro v8 g i ⟨f,rfl⟩;refine va (I d) (wln (W.ret ?_));obtain rfl:=si H;exact r1 (qq g ⟨f,rfl⟩)
def dB (p0:List Int) (p1:Int) (p2:Int) (p3:Bool) (p4:Bool):Option ((List Int)×ByteArray):=
 (orE (decide (p2 < 2)) (some (p2==10))).bind fun v=>
 (orE v (some (decide (p2 > 36)))).bind fun n=>
 if n=true then
 none
 else
 (if p3=true then
 some ((IntKind.u64.wrap (0 - p1)))
 else
 some (p1)).bind fun g=>
 ((dh p2).bind fun q=>
 if q=true then
 (ei (IntKind.u64.wrap p2)).bind fun r=>
 (ed (σ:=Int×(List Int)×Int) (τ:=(Int×(List Int)×Int)) ((g - (IntKind.u64.wrap p2)).toNat+2) (fun b=>
 if (decide (b.1≥(IntKind.u64.wrap p2)))=true then
 (gg (⟨#[48,49,50,51,52,53,54,55,56,57,97,98,99,100,101,102,103,104,105,106,107,108,109,110,111,112,113,114,115,116,117,118,119,120,121,122]⟩:ByteArray) (mY .u64 b.1 (IntKind.u64.wrap ((IntKind.u64.wrap p2) - 1)))).bind fun s=>
 (nH 65 b.2.1 (w64 (b.2.2 - 1))).bind fun z=>
 (lW b.2.1 (w64 (b.2.2 - 1)) s).bind fun o=>
 (shn (IntKind.u64.wrap r)).bind fun t=>
 some (.inl ((b.1.fdiv (2 ^ (min t 64))),o,(w64 (b.2.2 - 1))))
 else
 some (.inr (b.1,b.2.1,b.2.2))) (g,(List.replicate 65 (0:Int)),65)).bind fun d=>
 (gg (⟨#[48,49,50,51,52,53,54,55,56,57,97,98,99,100,101,102,103,104,105,106,107,108,109,110,111,112,113,114,115,116,117,118,119,120,121,122]⟩:ByteArray) d.1).bind fun u=>
 (nH 65 d.2.1 (w64 (d.2.2 - 1))).bind fun A=>
 (lW d.2.1 (w64 (d.2.2 - 1)) u).bind fun p=>
 some (p,(w64 (d.2.2 - 1)))
 else
 (ed (σ:=Int×(List Int)×Int) (τ:=(Int×(List Int)×Int)) ((g - (IntKind.u64.wrap p2)).toNat+2) (fun a=>
 if (decide (a.1≥(IntKind.u64.wrap p2)))=true then
 (dvg (IntKind.u64.wrap p2)).bind fun D=>
 (gg (⟨#[48,49,50,51,52,53,54,55,56,57,97,98,99,100,101,102,103,104,105,106,107,108,109,110,111,112,113,114,115,116,117,118,119,120,121,122]⟩:ByteArray) (IntKind.u64.wrap (a.1 - (IntKind.u64.wrap ((IntKind.u64.wrap (a.1.tdiv (IntKind.u64.wrap p2))) * (IntKind.u64.wrap p2)))))).bind fun k=>
 (nH 65 a.2.1 (w64 (a.2.2 - 1))).bind fun w=>
 (lW a.2.1 (w64 (a.2.2 - 1)) k).bind fun h=>
 some (.inl ((IntKind.u64.wrap (a.1.tdiv (IntKind.u64.wrap p2))),h,(w64 (a.2.2 - 1))))
 else
 some (.inr (a.1,a.2.1,a.2.2))) (g,(List.replicate 65 (0:Int)),65)).bind fun e=>
 (gg (⟨#[48,49,50,51,52,53,54,55,56,57,97,98,99,100,101,102,103,104,105,106,107,108,109,110,111,112,113,114,115,116,117,118,119,120,121,122]⟩:ByteArray) e.1).bind fun l=>
 (nH 65 e.2.1 (w64 (e.2.2 - 1))).bind fun x=>
 (lW e.2.1 (w64 (e.2.2 - 1)) l).bind fun i=>
 some (i,(w64 (e.2.2 - 1)))).bind fun c=>
 (if p3=true then
 (nH 65 c.1 (w64 (c.2 - 1))).bind fun y=>
 (lW c.1 (w64 (c.2 - 1)) 45).bind fun j=>
 some (j,(w64 (c.2 - 1)))
 else
 some (c.1,c.2)).bind fun f=>
 if p4=true then
 none
 else
 (slc f.1 f.2 f.1.length).bind fun m=>
 some (([]:List Int),(oR m))
theorem iU (O0:Own c0 G F) (hB:Tb6 c0) (p0:List Int) (p1:Int) (f:Int) (N:Bool) (P:Bool) {r:(List Int)×ByteArray} (h2:Sl (RI .u8) c0 v1 p0) (H:dB p0 p1 f N P=some r): Calls prog 121 #[v1,.int .u64 p1,I f,B N,B P] c0.w (aX c0 fun c v=>∃y1 y2,Own c G (es true (RI .u8) y1 5 y2 r.1 :: F)∧v= .tuple #[y1,.string r.2]∧OA (RI .u8) c y1 y2 r.1):=by
 unfold dB at H;refine en func121 rfl rfl (sr (va (Y) (va (.string (⟨#[]⟩:ByteArray)) (wln (W.seq (W.seq (bn H fun t6 h3 H=>bn H fun i2 h4 H=>W.join (Jn c0 fun c l=>Own c G (F)∧l= [(0,v1),(1,.int .u64 p1),(2,I f),(3,B N),(4,B P),(10,Y),(11,.string (⟨#[]⟩:ByteArray)),(28,B i2)]) ?_ ?_)))))))
 ·clear H;refine W.region (va (I f) (va (B (decide (f < 2))) ?_));rcases bo (decide (f < 2)) with h5 | h5
  ·obtain rfl:=orT h5 h3;refine vb h5 (pz (va (B true) ?_));have h6:true=true:=rfl;obtain rfl:=orT h6 h4;exact vb h6 (pz (va (B true) (wln (jn c0 ⟨O0,rfl⟩))))
  have H7:=orF h5 h3;refine vb h5 (wa (I f) (wa (B (f==10)) ?_));obtain rfl:=si H7;refine va (B (f==10)) ?_;rcases bo (f==10) with h8 | h8
  ·obtain rfl:=orT h8 h4;exact vb h8 (pz (va (B true) (wln (jn c0 ⟨O0,rfl⟩))))
  have H9:=orF h8 h4;refine vb h8 (wa (I f) (wa (B (decide (f > 36))) ?_));obtain rfl:=si H9;exact va (B (decide (f > 36))) (wln (jn c0 ⟨O0,rfl⟩))
 rintro e_ w_ ⟨r6,u6,_,rfl,z6,rfl,b4,rfl⟩;refine nrm (cn H (fun n4 H=>?_) (fun n4 H=>?_))
 ·cases H
 refine W.skip (nrm (sr (me (Own.alA (k:= .u8) (T:=203) 65 b4 (by kernel_rfl) (by kernel_rfl)) ?_)));rintro v22 t0 a7 ⟨h0,b1,rfl,g1,k1⟩;refine wln (sr (va (I 65) (wln (bn H fun y3 d0 z3=>W.seqJ (Jn t0 fun c l=>Own c G (es true (RI .u8) (.slice (some ⟨h0,0,none⟩) 65 65) 203 b1 (List.replicate 65 (0:Int)) :: F)∧l= [(0,v1),(1,.int .u64 y3),(2,I f),(3,B N),(4,B P),(10,Y),(11,.string (⟨#[]⟩:ByteArray)),(12,Q h0),(13,I 65)]) ?_ ?_))))
 ·refine sr (va (B N) (wln (cn d0 (fun o4 d0=>?_) (fun o4 d0=>?_))))
  ·refine W.region (va (.int .u64 p1) (vv (.int .u64 (IntKind.u64.wrap (0 - p1))) (wln ?_)));obtain rfl:=si d0;exact jn t0 ⟨g1,rfl⟩
  refine W.skip (nrm ?_);obtain rfl:=si d0;exact jn t0 ⟨g1,rfl⟩
 rintro e_ w_ ⟨i4,v6,_,rfl,b7,rfl,c4,rfl⟩;refine bn z3 fun j d a4=>W.seqJ (Jn i4 fun c l=>∃i0 D,Own c G (es true (RI .u8) (.slice (some ⟨D,0,none⟩) 65 65) 203 i0 j.1 :: F)∧l= [(0,v1),(3,B N),(4,B P),(10,Y),(11,.string (⟨#[]⟩:ByteArray)),(12,Q D),(13,I j.2)]∧OA (RI .u8) c (.slice (some ⟨D,0,none⟩) 65 65) i0 j.1) ?_ ?_
 ·refine sr (va (I f) (bn d fun n6 r4 d=>cl (iE c4 f r4) ?_));rintro v42 u0 c7 ⟨h1,rfl⟩;refine wln (cn d (fun s4 d=>?_) (fun s4 d=>?_))
  ·refine sr (va (I f) (va (.int .u64 (IntKind.u64.wrap f)) (bn d fun S t4 d=>cl (jH h1 hB.m (IntKind.u64.wrap f) t4) ?_)));rintro v50 v0 d7 ⟨d4,rfl⟩;refine vv (.int .u64 (IntKind.u64.wrap S)) (wln (sr (va (I f) (vv (.int .u64 (IntKind.u64.wrap f)) (wln (sr (va (I f) (va (.int .u64 (IntKind.u64.wrap f)) (vv (.int .u64 (IntKind.u64.wrap ((IntKind.u64.wrap f) - 1))) (wln (W.seq (W.block (bn d fun o m1 q=>lp m1 (fun h=>Jn v0 fun c l=>∃j0 E,Own c G (es true (RI .u8) (.slice (some ⟨E,0,none⟩) 65 65) 203 j0 h.2.1 :: F)∧l= [(0,v1),(1,.int .u64 h.1),(3,B N),(4,B P),(10,Y),(11,.string (⟨#[]⟩:ByteArray)),(12,Q E),(13,I h.2.2),(14,.int .u64 (IntKind.u64.wrap S)),(15,.int .u64 (IntKind.u64.wrap f)),(16,.int .u64 (IntKind.u64.wrap ((IntKind.u64.wrap f) - 1)))]∧OA (RI .u8) c (.slice (some ⟨E,0,none⟩) 65 65) j0 h.2.1) (fun t ex e w=>ex= .exit 0∧(Jn v0 fun c l=>∃c1 U,Own c G (es true (RI .u8) (.slice (some ⟨U,0,none⟩) 65 65) 203 c1 t.2.1 :: F)∧l= [(0,v1),(1,.int .u64 t.1),(3,B N),(4,B P),(10,Y),(11,.string (⟨#[]⟩:ByteArray)),(12,Q U),(13,I t.2.2)]∧OA (RI .u8) c (.slice (some ⟨U,0,none⟩) 65 65) c1 t.2.1) e w) ?_ ?_ ?_)))))))))))))
   ·clear q m1;intro h o5 w0 e1 d;revert w0 e1;rintro e_ w_ ⟨j4,w6,_,rfl,e7,rfl,j0,E,i1,rfl,n1⟩;refine W.seq (sr (va (.int .u64 h.1) (va (.int .u64 (IntKind.u64.wrap f)) (va (B (decide (h.1≥(IntKind.u64.wrap f)))) (wln (cn d (fun v4 d=>?_) (fun v4 d=>?_)))))))
    ·refine W.skip (nrm (W.block (sr (va (I h.2.2) (vv (I (w64 (h.2.2 - 1))) (wln (sr (va (I (w64 (h.2.2 - 1))) (va (.int .u64 h.1) (va (.int .u64 (IntKind.u64.wrap ((IntKind.u64.wrap f) - 1))) (va (.int .u64 (mY .u64 h.1 (IntKind.u64.wrap ((IntKind.u64.wrap f) - 1)))) (bn d fun a0 w4 d=>vr (.int .u8 a0) (rx (by kernel_rfl) (cp (k:= .u64) u_9 w4 _)) (bn d fun o6 x4 d=>?_)))))))))))));obtain ⟨y4,z4⟩:=kV x4;refine vr (.pointer (some ⟨sb (.slice (some ⟨E,0,none⟩) 65 65),(w64 (h.2.2 - 1)).toNat * 1,none⟩)) (rx (by kernel_rfl) (gR (k:= .i64) nM (by kernel_rfl) (mX y4).1 z4 _)) (bn d fun l6 a5 d=>md (Own.stW (R:=(RI .u8)) (T:=5) (us:=[.int .u8 a0]) (x':=a0) (u:= .int .u8 a0) 0 i1 (by kernel_rfl) rfl n1 a5 rfl (by kernel_rfl) ⟨rfl,trivial⟩ rfl rfl) ?_);rintro k4 f7 ⟨m5,e4,b5⟩;refine wln (W.region (va (.int .u64 h.1) (va (.int .u64 (IntKind.u64.wrap S)) (bn d fun f1 c5 d=>vr (.int .u64 (h.1.fdiv (2 ^ (min f1 64)))) (tU (k':= .u64) (a:=h.1) (b:=(IntKind.u64.wrap S)) c5 (by kernel_rfl) _) (va (.int .u64 (h.1.fdiv (2 ^ (min f1 64)))) (WL.nil (bkn ?_)))))));obtain rfl:=si d;exact ⟨_,rfl,jn k4 ⟨m5,E,e4,rfl,b5⟩⟩
    refine W.exit (thx ?_);obtain rfl:=si d;exact ⟨_,rfl,rfl,jn j4 ⟨j0,E,i1,rfl,n1⟩⟩
   ·exact jn v0 ⟨b1,h0,d4,rfl,k1.m⟩
   rintro _ e_ w_ ⟨rfl,s6,x6,_,rfl,g7,rfl,c1,U,f4,rfl,d5⟩;refine bke (nrm (sr (va (I o.2.2) (vv (I (w64 (o.2.2 - 1))) (wln (W.region (va (I (w64 (o.2.2 - 1))) (va (.int .u64 o.1) (bn q fun b0 e5 q=>vr (.int .u8 b0) (rx (by kernel_rfl) (cp (k:= .u64) u_9 e5 _)) (bn q fun p6 f5 q=>?_))))))))));obtain ⟨g5,i5⟩:=kV f5;refine vr (.pointer (some ⟨sb (.slice (some ⟨U,0,none⟩) 65 65),(w64 (o.2.2 - 1)).toNat * 1,none⟩)) (rx (by kernel_rfl) (gR (k:= .i64) nM (by kernel_rfl) (mX g5).1 i5 _)) (bn q fun m6 j5 q=>md (Own.stW (R:=(RI .u8)) (T:=5) (us:=[.int .u8 b0]) (x':=b0) (u:= .int .u8 b0) 0 f4 (by kernel_rfl) rfl d5 j5 rfl (by kernel_rfl) ⟨rfl,trivial⟩ rfl rfl) ?_);rintro l4 h7 ⟨n5,g4,k5⟩;refine wln ?_;obtain rfl:=si q;exact jn l4 ⟨n5,U,g4,rfl,k5⟩
  refine sr (va (I f) (vv (.int .u64 (IntKind.u64.wrap f)) (wln (W.seq (W.block (bn d fun p q1 s=>lp q1 (fun g=>Jn u0 fun c l=>∃k0 M,Own c G (es true (RI .u8) (.slice (some ⟨M,0,none⟩) 65 65) 203 k0 g.2.1 :: F)∧l= [(0,v1),(1,.int .u64 g.1),(3,B N),(4,B P),(10,Y),(11,.string (⟨#[]⟩:ByteArray)),(12,Q M),(13,I g.2.2),(17,.int .u64 (IntKind.u64.wrap f))]∧OA (RI .u8) c (.slice (some ⟨M,0,none⟩) 65 65) k0 g.2.1) (fun x ex e w=>ex= .exit 2∧(Jn u0 fun c l=>∃d1 X,Own c G (es true (RI .u8) (.slice (some ⟨X,0,none⟩) 65 65) 203 d1 x.2.1 :: F)∧l= [(0,v1),(1,.int .u64 x.1),(3,B N),(4,B P),(10,Y),(11,.string (⟨#[]⟩:ByteArray)),(12,Q X),(13,I x.2.2)]∧OA (RI .u8) c (.slice (some ⟨X,0,none⟩) 65 65) d1 x.2.1) e w) ?_ ?_ ?_))))))
  ·clear s q1;intro g o5 w0 e1 d;revert w0 e1;rintro e_ w_ ⟨m4,y6,_,rfl,i7,rfl,k0,M,j1,rfl,x0⟩;refine W.seq (sr (va (.int .u64 g.1) (va (.int .u64 (IntKind.u64.wrap f)) (va (B (decide (g.1≥(IntKind.u64.wrap f)))) (wln (cn d (fun j2 d=>?_) (fun j2 d=>?_)))))))
   ·refine W.skip (nrm (W.block (sr (va (I g.2.2) (vv (I (w64 (g.2.2 - 1))) (wln (sr (va (.int .u64 g.1) (va (.int .u64 (IntKind.u64.wrap f)) (bn d fun q6 k2 d=>vr (.int .u64 (IntKind.u64.wrap (g.1.tdiv (IntKind.u64.wrap f)))) (fJ (a:=g.1) (b:=(IntKind.u64.wrap f)) k2 (by kernel_rfl) _) (va (.int .u64 (IntKind.u64.wrap (g.1.tdiv (IntKind.u64.wrap f)))) (wln (sr (va (I (w64 (g.2.2 - 1))) (va (.int .u64 g.1) (va (.int .u64 (IntKind.u64.wrap (g.1.tdiv (IntKind.u64.wrap f)))) (va (.int .u64 (IntKind.u64.wrap f)) (va (.int .u64 (IntKind.u64.wrap ((IntKind.u64.wrap (g.1.tdiv (IntKind.u64.wrap f))) * (IntKind.u64.wrap f)))) (va (.int .u64 (IntKind.u64.wrap (g.1 - (IntKind.u64.wrap ((IntKind.u64.wrap (g.1.tdiv (IntKind.u64.wrap f))) * (IntKind.u64.wrap f)))))) (bn d fun y l2 d=>vr (.int .u8 y) (rx (by kernel_rfl) (cp (k:= .u64) u_9 l2 _)) (bn d fun t5 m2 d=>?_)))))))))))))))))))));obtain ⟨n2,o2⟩:=kV m2;refine vr (.pointer (some ⟨sb (.slice (some ⟨M,0,none⟩) 65 65),(w64 (g.2.2 - 1)).toNat * 1,none⟩)) (rx (by kernel_rfl) (gR (k:= .i64) nM (by kernel_rfl) (mX n2).1 o2 _)) (bn d fun q5 q2 d=>md (Own.stW (R:=(RI .u8)) (T:=5) (us:=[.int .u8 y]) (x':=y) (u:= .int .u8 y) 0 j1 (by kernel_rfl) rfl x0 q2 rfl (by kernel_rfl) ⟨rfl,trivial⟩ rfl rfl) ?_);rintro e2 d6 ⟨t3,t1,s2⟩;refine wln (W.region (vv (.int .u64 (IntKind.u64.wrap (g.1.tdiv (IntKind.u64.wrap f)))) (WL.nil (bkn ?_))));obtain rfl:=si d;exact ⟨_,rfl,jn e2 ⟨t3,M,t1,rfl,s2⟩⟩
   refine W.exit (thx ?_);obtain rfl:=si d;exact ⟨_,rfl,rfl,jn m4 ⟨k0,M,j1,rfl,x0⟩⟩
  ·exact jn u0 ⟨b1,h0,h1,rfl,k1.m⟩
  rintro _ e_ w_ ⟨rfl,y5,a6,_,rfl,e6,rfl,d1,X,u1,rfl,t2⟩;refine bke (nrm (sr (va (I p.2.2) (vv (I (w64 (p.2.2 - 1))) (wln (W.region (va (I (w64 (p.2.2 - 1))) (va (.int .u64 p.1) (bn s fun z u2 s=>vr (.int .u8 z) (rx (by kernel_rfl) (cp (k:= .u64) u_9 u2 _)) (bn s fun u5 v2 s=>?_))))))))));obtain ⟨w2,x2⟩:=kV v2;refine vr (.pointer (some ⟨sb (.slice (some ⟨X,0,none⟩) 65 65),(w64 (p.2.2 - 1)).toNat * 1,none⟩)) (rx (by kernel_rfl) (gR (k:= .i64) nM (by kernel_rfl) (mX w2).1 x2 _)) (bn s fun r5 z2 s=>md (Own.stW (R:=(RI .u8)) (T:=5) (us:=[.int .u8 z]) (x':=z) (u:= .int .u8 z) 0 u1 (by kernel_rfl) rfl t2 z2 rfl (by kernel_rfl) ⟨rfl,trivial⟩ rfl rfl) ?_);rintro f2 f6 ⟨u3,w1,a3⟩;refine wln ?_;obtain rfl:=si s;exact jn f2 ⟨u3,X,w1,rfl,a3⟩
 rintro e_ w_ ⟨q0,b6,_,rfl,g6,rfl,i0,D,o0,rfl,y0⟩;refine bn a4 fun A i n=>W.seqJ (Jn q0 fun c l=>∃f0 Z,Own c G (es true (RI .u8) (.slice (some ⟨Z,0,none⟩) 65 65) 203 f0 A.1 :: F)∧l= [(0,v1),(4,B P),(10,Y),(11,.string (⟨#[]⟩:ByteArray)),(12,Q Z),(13,I A.2)]∧OA (RI .u8) c (.slice (some ⟨Z,0,none⟩) 65 65) f0 A.1) ?_ ?_
 ·refine sr (va (B N) (wln (cn i (fun b3 i=>?_) (fun b3 i=>?_))))
  ·refine sr (va (I j.2) (vv (I (w64 (j.2 - 1))) (wln (W.region (va (I (w64 (j.2 - 1))) (bn i fun v5 c3 i=>?_))))));obtain ⟨d3,e3⟩:=kV c3;refine vr (.pointer (some ⟨sb (.slice (some ⟨D,0,none⟩) 65 65),(w64 (j.2 - 1)).toNat * 1,none⟩)) (rx (by kernel_rfl) (gR (k:= .i64) nM (by kernel_rfl) (mX d3).1 e3 _)) (bn i fun s5 f3 i=>md (Own.stW (R:=(RI .u8)) (T:=5) (us:=[.int .u8 45]) (x':=45) (u:= .int .u8 45) 0 o0 (by kernel_rfl) rfl y0 f3 rfl (by kernel_rfl) ⟨rfl,trivial⟩ rfl rfl) ?_);rintro g2 i6 ⟨v3,x1,g3⟩;refine wln ?_;obtain rfl:=si i;exact jn g2 ⟨v3,D,x1,rfl,g3⟩
  refine W.skip (nrm ?_);obtain rfl:=si i;exact jn q0 ⟨i0,D,o0,rfl,y0⟩
 rintro e_ w_ ⟨z5,c6,_,rfl,j6,rfl,f0,Z,z1,rfl,i3⟩;refine W.seq (sr (va (B P) (wln (cn n (fun j3 n=>?_) (fun j3 n=>?_)))))
 ·cases n
 refine W.skip (nrm (sr (va (I A.2) ?_)));obtain ⟨s0,l3,k6,b2,k3⟩:=z1.frz 0 rfl i3;refine WL.gh l3 (bn n fun l0 m3 n=>?_);obtain ⟨w3,n3,o3⟩:=rX (k:= .i64) nM (by kernel_rfl) k3 m3;refine vr w3 (rx (by kernel_rfl) (n3 _)) (vr (.string (oR l0)) (rx (by kernel_rfl) (rY tC u_5 u_9 o3)) (va (.string (oR l0)) (wln (W.ret ?_))));obtain rfl:=si n;have q3:OA (RI .u8) s0 (Y) [] []:=OA.nil (fD _);have c2:=b2.addHole (e:=es true (RI .u8) (Y) 5 [] ([]:List Int)) rfl;have d2:=c2.sD 2 [0];exact r2 (qq s0 ⟨(Y),[],d2,rfl,q3⟩)
def dQ (p0:Int) (p1:Int):Option (ByteArray):=
 if (p1==10)=true then
 (cj (decide (0≤p0)) (some (decide (p0 < 100)))).bind fun c=>
 if c=true then
 (ga p0).bind fun a=>
 some a
 else
 none
 else
 (dB ([]:List Int) (IntKind.u64.wrap p0) p1 (decide (p0 < 0)) false).bind fun b=>
 some b.2
theorem jl (f:Own c0 G F) (hB:Tb6 c0) (a:Int) (d:Int) {r:ByteArray} (H:dQ a d=some r):
    Calls prog 90 #[I a,I d] c0.w (aX c0 fun c v=>Own c G (F)∧v= .string r):=by
 unfold dQ at H
 refine en func90 rfl rfl (sr (va (.string (⟨#[]⟩:ByteArray)) (wln (W.seq (sr (va (I d) (va (B (d==10)) (wln (cn H (fun x H=>?_) (fun x H=>?_))))))))))
 ·refine W.seq (W.seq (bn H fun n s H=>W.join (Jn c0 fun c l=>Own c G (F)∧l= [(0,I a),(17,B n)]) ?_ ?_))
  ·clear H
   refine W.region (va (I a) (va (B (decide (0≤a))) ?_))
   rcases bo (decide (0≤a)) with e | e
   ·have t:=anT e s
    refine vb e (wa (I a) (wa (B (decide (a < 100))) ?_))
    obtain rfl:=si t
    exact va (B (decide (a < 100))) (wln (jn c0 ⟨f,rfl⟩))
   obtain rfl:=anF e s
   exact vb e (pz (va (B false) (wln (jn c0 ⟨f,rfl⟩))))
  rintro M R ⟨E,N,_,rfl,P,rfl,u,rfl⟩
  refine nrm (cn H (fun o H=>?_) (fun o H=>?_))
  ·refine sr (va (I a) (bn H fun g p H=>cl (la u a p) ?_))
   rintro v18 k z ⟨h,rfl⟩
   refine va (.string g) (wln (W.ret (thr (thr ?_))))
   obtain rfl:=si H
   exact r1 (qq k ⟨h,rfl⟩)
  cases H
 refine W.skip (nrm (sr (va (I a) (va (.int .u64 (IntKind.u64.wrap a)) (va (I d) (va (I a) (va (B (decide (a < 0))) (bn H fun b q H=>cl (iU f hB ([]:List Int) (IntKind.u64.wrap a) d (decide (a < 0)) false (Sl.nl _ _) q) ?_))))))))
 rintro v28 m A ⟨v20,D,i,rfl,y⟩
 refine va (.tuple #[v20,.string b.2]) (va (v20) (va (.string b.2) (va (v20) (va (.string b.2) (wln (sr (vv (.string b.2) (wln (W.ret ?_)))))))))
 obtain rfl:=si H
 have j:=i.sD 1 []
 exact r1 (qq m ⟨j,rfl⟩)
def dA (p0:Int) (p1:Int):Option (ByteArray):=
 (dQ p0 p1).bind fun a=>
 some a
theorem jZ (e:Own c0 G F) (hB:Tb6 c0) (a:Int) (b:Int) {r:ByteArray} (H:dA a b=some r): Calls prog 79 #[I a,I b] c0.w (aX c0 fun c v=>Own c G (F)∧v= .string r):=by
 unfold dA at H;refine en func79 rfl rfl (sr (va (.string (⟨#[]⟩:ByteArray)) (wln (sr (va (I a) (va (I b) (bn H fun d h H=>cl (jl e hB a b h) ?_)))))));rintro v7 g i ⟨f,rfl⟩;refine va (.string d) (wln (W.ret ?_));obtain rfl:=si H;exact r1 (qq g ⟨f,rfl⟩)
def bI (p0:Int):Option (Int):=
 some (wd .u8 p0 32)
theorem du (b:Own c0 G F) (a:Int) {r:Int} (H:bI a=some r): Calls prog 172 #[.int .u8 a] c0.w (aX c0 fun c v=>Own c G (F)∧v= .int .u8 r):=by
 unfold bI at H;refine en func172 rfl rfl (sr (va (.int .u8 0) (wln (sr (va (.int .u8 a) (vv (.int .u8 (wd .u8 a 32)) (wln (W.ret ?_))))))));obtain rfl:=si H;exact r1 (qq c0 ⟨b,rfl⟩)
def db (p0:ByteArray) (p1:Int) (p2:Int):Option (Int×Er):=
 if (eqS p0 (⟨#[]⟩:ByteArray))=true then
 none
 else
 ((cj (decide (2≤p1)) (some (decide (p1≤36)))).bind fun r=>
 if r=true then
 some (p0,p1)
 else
 if (p1==0)=true then
 (gg p0 0).bind fun v=>
 if (v==48)=true then
 (cj (decide ((bN p0)≥3)) ((gg p0 1).bind fun w=>
 (bI w).bind fun x=>
 some (x==98))).bind fun s=>
 if s=true then
 (dY p0 2 (bN p0)).bind fun y=>
 some (y,2)
 else
 (cj (decide ((bN p0)≥3)) ((gg p0 1).bind fun z=>
 (bI z).bind fun A=>
 some (A==111))).bind fun t=>
 if t=true then
 (dY p0 2 (bN p0)).bind fun D=>
 some (D,8)
 else
 (cj (decide ((bN p0)≥3)) ((gg p0 1).bind fun E=>
 (bI E).bind fun H=>
 some (H==120))).bind fun u=>
 if u=true then
 (dY p0 2 (bN p0)).bind fun M=>
 some (M,16)
 else
 (dY p0 1 (bN p0)).bind fun N=>
 some (N,8)
 else
 some (p0,10)
 else
 none).bind fun b=>
 (if (p2==0)=true then
 some (64)
 else
 (orE (decide (p2 < 0)) (some (decide (p2 > 64)))).bind fun k=>
 if k=true then
 none
 else
 some (p2)).bind fun P=>
 (if (b.2==10)=true then
 some (1844674407370955162)
 else
 if (b.2==16)=true then
 some (1152921504606846976)
 else
 (dvg (IntKind.u64.wrap b.2)).bind fun R=>
 some ((IntKind.u64.wrap ((IntKind.u64.wrap ((18446744073709551615:Int).tdiv (IntKind.u64.wrap b.2)))+1)))).bind fun i=>
 (shn (IntKind.u64.wrap P)).bind fun h=>
 (s2b b.1).bind fun f=>
 (ed (σ:=Bool×Int×Int) (τ:=(Bool×Int)) (((f.length:Int) - 0).toNat+1) (fun a=>
 if (decide (a.2.2 < (f.length:Int)))=true then
 ((idx f a.2.2).bind fun c=>
 (cj (c==95) (some (p1==0))).bind fun l=>
 if l=true then
 some (true,a.2.1)
 else
 (cj (decide (48≤c)) (some (decide (c≤57)))).bind fun m=>
 if m=true then
 if (decide ((IntKind.u8.wrap (c - 48))≥(IntKind.u8.wrap b.2)))=true then
 none
 else
 if (decide (a.2.1≥i))=true then
 none
 else
 (orE (decide ((IntKind.u64.wrap ((IntKind.u64.wrap (a.2.1 * (IntKind.u64.wrap b.2)))+(IntKind.u64.wrap (IntKind.u8.wrap (c - 48))))) < (IntKind.u64.wrap (a.2.1 * (IntKind.u64.wrap b.2))))) (some (decide ((IntKind.u64.wrap ((IntKind.u64.wrap (a.2.1 * (IntKind.u64.wrap b.2)))+(IntKind.u64.wrap (IntKind.u8.wrap (c - 48))))) > (IntKind.u64.wrap ((IntKind.u64.wrap (1 * 2 ^ (min h 64))) - 1)))))).bind fun e=>
 if e=true then
 none
 else
 some (a.1,(IntKind.u64.wrap ((IntKind.u64.wrap (a.2.1 * (IntKind.u64.wrap b.2)))+(IntKind.u64.wrap (IntKind.u8.wrap (c - 48))))))
 else
 (bI c).bind fun p=>
 (cj (decide (97≤p)) ((bI c).bind fun q=>
 some (decide (q≤122)))).bind fun n=>
 if n=true then
 (bI c).bind fun d=>
 if (decide ((IntKind.u8.wrap ((IntKind.u8.wrap (d - 97))+10))≥(IntKind.u8.wrap b.2)))=true then
 none
 else
 if (decide (a.2.1≥i))=true then
 none
 else
 (orE (decide ((IntKind.u64.wrap ((IntKind.u64.wrap (a.2.1 * (IntKind.u64.wrap b.2)))+(IntKind.u64.wrap (IntKind.u8.wrap ((IntKind.u8.wrap (d - 97))+10))))) < (IntKind.u64.wrap (a.2.1 * (IntKind.u64.wrap b.2))))) (some (decide ((IntKind.u64.wrap ((IntKind.u64.wrap (a.2.1 * (IntKind.u64.wrap b.2)))+(IntKind.u64.wrap (IntKind.u8.wrap ((IntKind.u8.wrap (d - 97))+10))))) > (IntKind.u64.wrap ((IntKind.u64.wrap (1 * 2 ^ (min h 64))) - 1)))))).bind fun e=>
 if e=true then
 none
 else
 some (a.1,(IntKind.u64.wrap ((IntKind.u64.wrap (a.2.1 * (IntKind.u64.wrap b.2)))+(IntKind.u64.wrap (IntKind.u8.wrap ((IntKind.u8.wrap (d - 97))+10))))))
 else
 none).bind fun j=>
 some (.inl (j.1,j.2,(w64 (a.2.2+1))))
 else
 some (.inr (a.1,a.2.1))) (false,0,0)).bind fun g=>
 (cj g.1 none).bind fun o=>
 if o=true then
 none
 else
 some (g.2,Er.nil)
set_option maxHeartbeats 4000000 in
theorem jk (O0:Own c0 G F) (n:ByteArray) (p:Int) (A:Int) {r:Int×Er} (H:db n p A=some r):
    Calls prog 168 #[.string n,I p,I A] c0.w (aX c0 fun c v=>∃y1,Own c G (F)∧v= .tuple #[.int .u64 r.1,y1]∧RE 230 87 c y1 r.2):=by
 unfold db at H
 refine en func168 rfl rfl (sr (va (.int .u64 0) (va (.nilIface) (wln (W.seq (sr (va (.string n) (vr (B (eqS n (⟨#[]⟩:ByteArray))) (dP (by kernel_rfl)) (wln (cn H (fun h1 H=>?_) (fun h1 H=>?_)))))))))))
 ·cases H
 refine W.skip (nrm (sr (va (I p) (vv (B (p==0)) (wln (sr (vv (.string n) (wln (bn H fun f i H3=>W.seqJ (Jn c0 fun c l=>Own c G (F)∧l= [(0,.string f.1),(1,I f.2),(2,I A),(8,B (p==0)),(9,.string n)]) ?_ ?_)))))))))
 ·refine W.block (W.seq (bn i fun w3 h4 i=>W.join (Jn c0 fun c l=>Own c G (F)∧l= [(0,.string n),(1,I p),(2,I A),(8,B (p==0)),(9,.string n),(25,B w3)]) ?_ ?_))
  ·clear i
   refine W.region (va (I p) (va (B (decide (2≤p))) ?_))
   rcases bo (decide (2≤p)) with h5 | h5
   ·have H6:=anT h5 h4
    refine vb h5 (wa (I p) (wa (B (decide (p≤36))) ?_))
    obtain rfl:=si H6
    exact vv (B (decide (p≤36))) (wln (jn c0 ⟨O0,rfl⟩))
   obtain rfl:=anF h5 h4
   exact vb h5 (pz (vv (B false) (wln (jn c0 ⟨O0,rfl⟩))))
  rintro z D ⟨c7,g8,_,rfl,l7,rfl,O9,rfl⟩
  refine nrm (cn i (fun k5 i=>?_) (fun k5 i=>?_))
  ·refine W.skip (bkn (nrm ?_))
   obtain rfl:=si i
   exact jn c7 ⟨O9,rfl⟩
  refine sr (va (I p) (vv (B (p==0)) (wln (cn i (fun l5 i=>?_) (fun l5 i=>?_)))))
  ·refine sr (va (I 10) (wln (sr (va (.string n) (bn i fun d2 m5 i=>vr (.int .u8 d2) (rx (by kernel_rfl) (cp (k:= .i64) u_9 m5 _)) (va (B (d2==48)) (wln (cn i (fun n5 i=>?_) (fun n5 i=>?_)))))))))
   ·refine W.block (W.seq (bn i fun x3 w2 i=>W.join (Jn c7 fun c l=>Own c G (F)∧l= [(0,.string n),(2,I A),(8,B (p==0)),(9,.string n),(40,B x3)]) ?_ ?_))
    ·clear i
     refine W.region (va (.string n) (vr (I (bN n)) (rx (by kernel_rfl) (dy (ty:=3) u_9 _)) (va (B (decide ((bN n)≥3))) ?_)))
     rcases bo (decide ((bN n)≥3)) with j0 | j0
     ·have f0:=anT j0 w2
      refine vb j0 (wa (.string n) (wn (bn f0 fun e2 o5 f0=>vr (.int .u8 e2) (rx (by kernel_rfl) (cp (k:= .i64) u_9 o5 _)) (wn (bn f0 fun y0 p5 f0=>cl (du O9 e2 p5) ?_)))))
      rintro v27 e5 v7 ⟨a5,rfl⟩
      refine wa (B (y0==98)) ?_
      obtain rfl:=si f0
      exact vv (B (y0==98)) (wln (jn e5 ⟨a5,rfl⟩))
     obtain rfl:=anF j0 w2
     exact vb j0 (pz (pz (vv (B false) (wln (jn c7 ⟨O9,rfl⟩)))))
    rintro z D ⟨n1,p7,_,rfl,w7,rfl,g1,rfl⟩
    refine nrm (cn i (fun q5 i=>?_) (fun q5 i=>?_))
    ·refine sr (va (I 2) (wln (W.region (va (.string n) (bn i fun f2 r5 i=>vr (.string f2) (rx (by kernel_rfl) (fN (k:= .i64) u_9 r5 _)) (va (.string f2) (WL.nil (bkn (bkn (nrm ?_))))))))))
     obtain rfl:=si i
     exact jn n1 ⟨g1,rfl⟩
    refine W.seq (bn i fun y3 x2 i=>W.join (Jn n1 fun c l=>Own c G (F)∧l= [(0,.string n),(2,I A),(8,B (p==0)),(9,.string n),(52,B y3)]) ?_ ?_)
    ·clear i
     refine W.region (va (.string n) (vr (I (bN n)) (rx (by kernel_rfl) (dy (ty:=3) u_9 _)) (va (B (decide ((bN n)≥3))) ?_)))
     rcases bo (decide ((bN n)≥3)) with k0 | k0
     ·have g0:=anT k0 x2
      refine vb k0 (wa (.string n) (wn (bn g0 fun g2 s5 g0=>vr (.int .u8 g2) (rx (by kernel_rfl) (cp (k:= .i64) u_9 s5 _)) (wn (bn g0 fun z0 u5 g0=>cl (du g1 g2 u5) ?_)))))
      rintro v46 f5 x7 ⟨b5,rfl⟩
      refine wa (B (z0==111)) ?_
      obtain rfl:=si g0
      exact vv (B (z0==111)) (wln (jn f5 ⟨b5,rfl⟩))
     obtain rfl:=anF k0 x2
     exact vb k0 (pz (pz (vv (B false) (wln (jn n1 ⟨g1,rfl⟩)))))
    rintro z D ⟨q1,q7,_,rfl,y7,rfl,i1,rfl⟩
    refine nrm (cn i (fun v5 i=>?_) (fun v5 i=>?_))
    ·refine sr (va (I 8) (wln (W.region (va (.string n) (bn i fun h2 w5 i=>vr (.string h2) (rx (by kernel_rfl) (fN (k:= .i64) u_9 w5 _)) (va (.string h2) (WL.nil (bkn (bkn (nrm ?_))))))))))
     obtain rfl:=si i
     exact jn q1 ⟨i1,rfl⟩
    refine W.seq (bn i fun z3 y2 i=>W.join (Jn q1 fun c l=>Own c G (F)∧l= [(0,.string n),(2,I A),(8,B (p==0)),(9,.string n),(64,B z3)]) ?_ ?_)
    ·clear i
     refine W.region (va (.string n) (vr (I (bN n)) (rx (by kernel_rfl) (dy (ty:=3) u_9 _)) (va (B (decide ((bN n)≥3))) ?_)))
     rcases bo (decide ((bN n)≥3)) with l0 | l0
     ·have h0:=anT l0 y2
      refine vb l0 (wa (.string n) (wn (bn h0 fun i2 x5 h0=>vr (.int .u8 i2) (rx (by kernel_rfl) (cp (k:= .i64) u_9 x5 _)) (wn (bn h0 fun a1 y5 h0=>cl (du i1 i2 y5) ?_)))))
      rintro e8 g5 z7 ⟨c5,rfl⟩
      refine wa (B (a1==120)) ?_
      obtain rfl:=si h0
      exact vv (B (a1==120)) (wln (jn g5 ⟨c5,rfl⟩))
     obtain rfl:=anF l0 y2
     exact vb l0 (pz (pz (vv (B false) (wln (jn q1 ⟨i1,rfl⟩)))))
    rintro z D ⟨v2,r7,_,rfl,a8,rfl,u2,rfl⟩
    refine nrm (cn i (fun z5 i=>?_) (fun z5 i=>?_))
    ·refine sr (va (I 16) (wln (W.region (va (.string n) (bn i fun j2 a6 i=>vr (.string j2) (rx (by kernel_rfl) (fN (k:= .i64) u_9 a6 _)) (va (.string j2) (WL.nil (bkn (bkn (nrm ?_))))))))))
     obtain rfl:=si i
     exact jn v2 ⟨u2,rfl⟩
    refine sr (va (I 8) (wln (W.region (va (.string n) (bn i fun k2 b6 i=>vr (.string k2) (rx (by kernel_rfl) (fN (k:= .i64) u_9 b6 _)) (va (.string k2) (WL.nil (bkn (bkn (nrm ?_))))))))))
    obtain rfl:=si i
    exact jn v2 ⟨u2,rfl⟩
   refine W.skip (bkn (nrm ?_))
   obtain rfl:=si i
   exact jn c7 ⟨O9,rfl⟩
  cases i
 rintro z D ⟨i0,s7,_,rfl,b8,rfl,j1,rfl⟩
 refine bn H3 fun X y x4=>W.seqJ (Jn i0 fun c l=>Own c G (F)∧l= [(0,.string f.1),(1,I f.2),(2,I X),(8,B (p==0)),(9,.string n)]) ?_ ?_
 ·refine sr (va (I A) (va (B (A==0)) (wln (cn y (fun c6 y=>?_) (fun c6 y=>?_)))))
  ·refine W.region (va (I 64) (wln ?_))
   obtain rfl:=si y
   exact jn i0 ⟨j1,rfl⟩
  refine W.seq (bn y fun n2 z2 y=>W.join (Jn i0 fun c l=>Own c G (F)∧l= [(0,.string f.1),(1,I f.2),(2,I A),(8,B (p==0)),(9,.string n),(83,B n2)]) ?_ ?_)
  ·clear y
   refine W.region (va (I A) (va (B (decide (A < 0))) ?_))
   rcases bo (decide (A < 0)) with m0 | m0
   ·obtain rfl:=orT m0 z2
    exact vb m0 (pz (va (B true) (wln (jn i0 ⟨j1,rfl⟩))))
   have y4:=orF m0 z2
   refine vb m0 (wa (I A) (wa (B (decide (A > 64))) ?_))
   obtain rfl:=si y4
   exact va (B (decide (A > 64))) (wln (jn i0 ⟨j1,rfl⟩))
  rintro z D ⟨i5,t7,_,rfl,c8,rfl,d5,rfl⟩
  refine nrm (cn y (fun d6 y=>?_) (fun d6 y=>?_))
  ·cases y
  refine W.skip (nrm ?_)
  obtain rfl:=si y
  exact jn i5 ⟨d5,rfl⟩
 rintro z D ⟨b1,u7,_,rfl,d8,rfl,k1,rfl⟩
 refine sr (va (.int .u64 0) (wln (bn x4 fun q s t=>W.seqJ (Jn b1 fun c l=>Own c G (F)∧l= [(0,.string f.1),(1,I f.2),(2,I X),(8,B (p==0)),(9,.string n),(10,.int .u64 q)]) ?_ ?_)))
 ·refine sr (va (I f.2) (wln (W.block (sr (vv (B (f.2==10)) (wln (cn s (fun a4 s=>?_) (fun a4 s=>?_))))))))
  ·refine W.region (va (.int .u64 1844674407370955162) (WL.nil (bkn (nrm ?_))))
   obtain rfl:=si s
   exact jn b1 ⟨k1,rfl⟩
  refine sr (vv (B (f.2==16)) (wln (cn s (fun b4 s=>?_) (fun b4 s=>?_))))
  ·refine W.region (va (.int .u64 1152921504606846976) (WL.nil (bkn (nrm ?_))))
   obtain rfl:=si s
   exact jn b1 ⟨k1,rfl⟩
  refine W.region (va (I f.2) (va (.int .u64 (IntKind.u64.wrap f.2)) (bn s fun h6 c4 s=>vr (.int .u64 (IntKind.u64.wrap ((18446744073709551615:Int).tdiv (IntKind.u64.wrap f.2)))) (fJ (a:=18446744073709551615) (b:=(IntKind.u64.wrap f.2)) c4 (by kernel_rfl) _) (vv (.int .u64 (IntKind.u64.wrap ((IntKind.u64.wrap ((18446744073709551615:Int).tdiv (IntKind.u64.wrap f.2)))+1))) (WL.nil (bkn (nrm ?_)))))))
  obtain rfl:=si s
  exact jn b1 ⟨k1,rfl⟩
 rintro z D ⟨k6,m6,_,rfl,x6,rfl,g3,rfl⟩
 refine sr (va (I X) (va (.int .u64 (IntKind.u64.wrap X)) (bn t fun o d4 t=>vr (.int .u64 (IntKind.u64.wrap (1 * 2 ^ (min o 64)))) (qB (k':= .u64) (a:=1) (b:=(IntKind.u64.wrap X)) d4 (by kernel_rfl) _) (vv (.int .u64 (IntKind.u64.wrap ((IntKind.u64.wrap (1 * 2 ^ (min o 64))) - 1))) (wln (sr (va (B false) (wln (sr (va (.int .u64 0) (wln (W.seq (sr (va (.string f.1) (bn t fun u e4 t=>me (Own.s2b g3 u_9 tC u_5 e4 (by kernel_rfl)) ?_)))))))))))))))
 rintro E v0 y6 ⟨h3,x0⟩
 refine vx (ln 3 tC x0) (va (I 0) (wln (W.block (bn t fun M s1 x=>lp s1 (fun d=>Jn v0 fun c l=>Own c G (F)∧l= [(1,I f.2),(8,B (p==0)),(9,.string n),(10,.int .u64 q),(11,.int .u64 (IntKind.u64.wrap ((IntKind.u64.wrap (1 * 2 ^ (min o 64))) - 1))),(12,B d.1),(13,.int .u64 d.2.1),(99,E),(100,I (u.length:Int)),(101,I d.2.2)]) (fun o0 ex e w=>ex= .exit 3∧(Jn v0 fun c l=>Own c G (F)∧l= [(9,.string n),(12,B o0.1),(13,.int .u64 o0.2)]) e w) ?_ ?_ ?_))))
 ·clear x s1
  intro d f8 j5 e6 t
  revert j5 e6
  rintro z D ⟨N,n6,_,rfl,v4,rfl,s0,rfl⟩
  refine sr (va (B (decide (d.2.2 < (u.length:Int)))) (wln (W.seq (cn t (fun f4 t=>?_) (fun f4 t=>?_)))))
  ·refine W.skip (nrm (bn t fun d1 g a3=>W.seqJ (Jn N fun c l=>Own c G (F)∧l= [(1,I f.2),(8,B (p==0)),(9,.string n),(10,.int .u64 q),(11,.int .u64 (IntKind.u64.wrap ((IntKind.u64.wrap (1 * 2 ^ (min o 64))) - 1))),(12,B d1.1),(13,.int .u64 d1.2),(99,E),(100,I (u.length:Int)),(101,I d.2.2)]) ?_ ?_))
   ·refine W.block (sr (bn g fun h t1 g=>?_))
    obtain ⟨g6,g4,w4⟩:=Sl.at (x0.mono v4) (ba t1)
    obtain rfl:=g4
    refine vx (ix tC x0.m t1) (vx (l1 u_5 (w4 0 _ rfl)) (va (.int .u8 h) (wln (sr (va (.int .u8 0) (wln (W.seq (W.block (W.seq (bn g fun o2 u1 g=>W.join (Jn N fun c l=>Own c G (F)∧l= [(1,I f.2),(8,B (p==0)),(9,.string n),(10,.int .u64 q),(11,.int .u64 (IntKind.u64.wrap ((IntKind.u64.wrap (1 * 2 ^ (min o 64))) - 1))),(12,B d.1),(13,.int .u64 d.2.1),(15,.int .u8 h),(99,E),(100,I (u.length:Int)),(101,I d.2.2),(106,B o2)]) ?_ ?_))))))))))
    ·clear g
     refine W.region (va (.int .u8 h) (va (B (h==95)) ?_))
     rcases bo (h==95) with P | P
     ·have b3:=anT P u1
      refine vb P (wa (B (p==0)) ?_)
      obtain rfl:=si b3
      exact vv (B (p==0)) (wln (jn N ⟨s0,rfl⟩))
     obtain rfl:=anF P u1
     exact vb P (ps (vv (B false) (wln (jn N ⟨s0,rfl⟩))))
    rintro z D ⟨Z,o6,_,rfl,z6,rfl,t0,rfl⟩
    refine nrm (cn g (fun i4 g=>?_) (fun i4 g=>?_))
    ·refine sr (va (B true) (wln (W.exit (bko rfl (thx (bke (nrm ?_)))))))
     obtain rfl:=si g
     exact jn Z ⟨t0,rfl⟩
    refine W.seq (bn g fun q2 v1 g=>W.join (Jn Z fun c l=>Own c G (F)∧l= [(1,I f.2),(8,B (p==0)),(9,.string n),(10,.int .u64 q),(11,.int .u64 (IntKind.u64.wrap ((IntKind.u64.wrap (1 * 2 ^ (min o 64))) - 1))),(12,B d.1),(13,.int .u64 d.2.1),(15,.int .u8 h),(99,E),(100,I (u.length:Int)),(101,I d.2.2),(112,B q2)]) ?_ ?_)
    ·clear g
     refine W.region (va (.int .u8 h) (va (B (decide (48≤h))) ?_))
     rcases bo (decide (48≤h)) with R | R
     ·have c3:=anT R v1
      refine vb R (wa (.int .u8 h) (wa (B (decide (h≤57))) ?_))
      obtain rfl:=si c3
      exact vv (B (decide (h≤57))) (wln (jn Z ⟨t0,rfl⟩))
     obtain rfl:=anF R v1
     exact vb R (pz (vv (B false) (wln (jn Z ⟨t0,rfl⟩))))
    rintro z D ⟨a0,p6,_,rfl,a7,rfl,u0,rfl⟩
    refine nrm (cn g (fun j4 g=>?_) (fun j4 g=>?_))
    ·refine W.region (va (.int .u8 h) (vv (.int .u8 (IntKind.u8.wrap (h - 48))) (WL.nil (bkn (nrm (W.seq (sr (va (.int .u8 (IntKind.u8.wrap (h - 48))) (va (I f.2) (va (.int .u8 (IntKind.u8.wrap f.2)) (va (B (decide ((IntKind.u8.wrap (h - 48))≥(IntKind.u8.wrap f.2)))) (wln (cn g (fun k4 g=>?_) (fun k4 g=>?_))))))))))))))
     ·cases g
     refine W.skip (nrm (W.seq (sr (va (.int .u64 d.2.1) (va (.int .u64 q) (va (B (decide (d.2.1≥q))) (wln (cn g (fun l4 g=>?_) (fun l4 g=>?_)))))))))
     ·cases g
     refine W.skip (nrm (sr (va (.int .u64 d.2.1) (va (I f.2) (va (.int .u64 (IntKind.u64.wrap f.2)) (vv (.int .u64 (IntKind.u64.wrap (d.2.1 * (IntKind.u64.wrap f.2)))) (wln (sr (va (.int .u64 (IntKind.u64.wrap (d.2.1 * (IntKind.u64.wrap f.2)))) (va (.int .u8 (IntKind.u8.wrap (h - 48))) (va (.int .u64 (IntKind.u64.wrap (IntKind.u8.wrap (h - 48)))) (vv (.int .u64 (IntKind.u64.wrap ((IntKind.u64.wrap (d.2.1 * (IntKind.u64.wrap f.2)))+(IntKind.u64.wrap (IntKind.u8.wrap (h - 48)))))) (wln (W.seq (W.seq (bn g fun b0 w1 g=>W.join (Jn a0 fun c l=>Own c G (F)∧l= [(1,I f.2),(8,B (p==0)),(9,.string n),(10,.int .u64 q),(11,.int .u64 (IntKind.u64.wrap ((IntKind.u64.wrap (1 * 2 ^ (min o 64))) - 1))),(12,B d.1),(17,.int .u64 (IntKind.u64.wrap ((IntKind.u64.wrap (d.2.1 * (IntKind.u64.wrap f.2)))+(IntKind.u64.wrap (IntKind.u8.wrap (h - 48)))))),(99,E),(100,I (u.length:Int)),(101,I d.2.2),(159,B b0)]) ?_ ?_))))))))))))))))
     ·clear g
      refine W.region (va (.int .u64 (IntKind.u64.wrap ((IntKind.u64.wrap (d.2.1 * (IntKind.u64.wrap f.2)))+(IntKind.u64.wrap (IntKind.u8.wrap (h - 48)))))) (va (.int .u64 (IntKind.u64.wrap (d.2.1 * (IntKind.u64.wrap f.2)))) (va (B (decide ((IntKind.u64.wrap ((IntKind.u64.wrap (d.2.1 * (IntKind.u64.wrap f.2)))+(IntKind.u64.wrap (IntKind.u8.wrap (h - 48))))) < (IntKind.u64.wrap (d.2.1 * (IntKind.u64.wrap f.2)))))) ?_)))
      rcases bo (decide ((IntKind.u64.wrap ((IntKind.u64.wrap (d.2.1 * (IntKind.u64.wrap f.2)))+(IntKind.u64.wrap (IntKind.u8.wrap (h - 48))))) < (IntKind.u64.wrap (d.2.1 * (IntKind.u64.wrap f.2))))) with S | S
      ·obtain rfl:=orT S w1
       exact vb S (pz (ps (va (B true) (wln (jn a0 ⟨u0,rfl⟩)))))
      have d3:=orF S w1
      refine vb S (wa (.int .u64 (IntKind.u64.wrap ((IntKind.u64.wrap (d.2.1 * (IntKind.u64.wrap f.2)))+(IntKind.u64.wrap (IntKind.u8.wrap (h - 48)))))) (wa (.int .u64 (IntKind.u64.wrap ((IntKind.u64.wrap (1 * 2 ^ (min o 64))) - 1))) (wa (B (decide ((IntKind.u64.wrap ((IntKind.u64.wrap (d.2.1 * (IntKind.u64.wrap f.2)))+(IntKind.u64.wrap (IntKind.u8.wrap (h - 48))))) > (IntKind.u64.wrap ((IntKind.u64.wrap (1 * 2 ^ (min o 64))) - 1))))) ?_)))
      obtain rfl:=si d3
      exact va (B (decide ((IntKind.u64.wrap ((IntKind.u64.wrap (d.2.1 * (IntKind.u64.wrap f.2)))+(IntKind.u64.wrap (IntKind.u8.wrap (h - 48))))) > (IntKind.u64.wrap ((IntKind.u64.wrap (1 * 2 ^ (min o 64))) - 1))))) (wln (jn a0 ⟨u0,rfl⟩))
     rintro z D ⟨p3,q6,_,rfl,b7,rfl,i3,rfl⟩
     refine nrm (cn g (fun m4 g=>?_) (fun m4 g=>?_))
     ·cases g
     refine W.skip (nrm (W.region (vv (.int .u64 (IntKind.u64.wrap ((IntKind.u64.wrap (d.2.1 * (IntKind.u64.wrap f.2)))+(IntKind.u64.wrap (IntKind.u8.wrap (h - 48)))))) (WL.nil (bkn (nrm ?_))))))
     obtain rfl:=si g
     exact jn p3 ⟨i3,rfl⟩
    refine W.seq (bn g fun c1 n4 g=>bn g fun s2 x1 g=>W.join (Jn a0 fun c l=>Own c G (F)∧l= [(1,I f.2),(8,B (p==0)),(9,.string n),(10,.int .u64 q),(11,.int .u64 (IntKind.u64.wrap ((IntKind.u64.wrap (1 * 2 ^ (min o 64))) - 1))),(12,B d.1),(13,.int .u64 d.2.1),(15,.int .u8 h),(99,E),(100,I (u.length:Int)),(101,I d.2.2),(121,B s2)]) ?_ ?_)
    ·clear g
     refine W.region (va (.int .u8 h) (cl (du u0 h n4) ?_))
     rintro m7 q3 d7 ⟨e1,rfl⟩
     refine va (B (decide (97≤c1))) ?_
     rcases bo (decide (97≤c1)) with T | T
     ·have q0:=anT T x1
      refine vb T (wa (.int .u8 h) (wn (bn q0 fun e0 o4 q0=>cl (du e1 h o4) ?_)))
      rintro n7 s3 e7 ⟨j3,rfl⟩
      refine wa (B (decide (e0≤122))) ?_
      obtain rfl:=si q0
      exact vv (B (decide (e0≤122))) (wln (jn s3 ⟨j3,rfl⟩))
     obtain rfl:=anF T x1
     exact vb T (pz (ps (vv (B false) (wln (jn q3 ⟨e1,rfl⟩)))))
    rintro z D ⟨l6,r6,_,rfl,f7,rfl,k3,rfl⟩
    refine nrm (cn g (fun p4 g=>?_) (fun p4 g=>?_))
    ·refine W.region (va (.int .u8 h) (bn g fun j q4 g=>cl (du k3 h q4) ?_))
     rintro o7 w0 g7 ⟨f1,rfl⟩
     refine va (.int .u8 (IntKind.u8.wrap (j - 97))) (vv (.int .u8 (IntKind.u8.wrap ((IntKind.u8.wrap (j - 97))+10))) (WL.nil (bkn (nrm (W.seq (sr (va (.int .u8 (IntKind.u8.wrap ((IntKind.u8.wrap (j - 97))+10))) (va (I f.2) (va (.int .u8 (IntKind.u8.wrap f.2)) (va (B (decide ((IntKind.u8.wrap ((IntKind.u8.wrap (j - 97))+10))≥(IntKind.u8.wrap f.2)))) (wln (cn g (fun r4 g=>?_) (fun r4 g=>?_)))))))))))))
     ·cases g
     refine W.skip (nrm (W.seq (sr (va (.int .u64 d.2.1) (va (.int .u64 q) (va (B (decide (d.2.1≥q))) (wln (cn g (fun s4 g=>?_) (fun s4 g=>?_)))))))))
     ·cases g
     refine W.skip (nrm (sr (va (.int .u64 d.2.1) (va (I f.2) (va (.int .u64 (IntKind.u64.wrap f.2)) (vv (.int .u64 (IntKind.u64.wrap (d.2.1 * (IntKind.u64.wrap f.2)))) (wln (sr (va (.int .u64 (IntKind.u64.wrap (d.2.1 * (IntKind.u64.wrap f.2)))) (va (.int .u8 (IntKind.u8.wrap ((IntKind.u8.wrap (j - 97))+10))) (va (.int .u64 (IntKind.u64.wrap (IntKind.u8.wrap ((IntKind.u8.wrap (j - 97))+10)))) (vv (.int .u64 (IntKind.u64.wrap ((IntKind.u64.wrap (d.2.1 * (IntKind.u64.wrap f.2)))+(IntKind.u64.wrap (IntKind.u8.wrap ((IntKind.u8.wrap (j - 97))+10)))))) (wln (W.seq (W.seq (bn g fun b0 z1 g=>W.join (Jn w0 fun c l=>Own c G (F)∧l= [(1,I f.2),(8,B (p==0)),(9,.string n),(10,.int .u64 q),(11,.int .u64 (IntKind.u64.wrap ((IntKind.u64.wrap (1 * 2 ^ (min o 64))) - 1))),(12,B d.1),(17,.int .u64 (IntKind.u64.wrap ((IntKind.u64.wrap (d.2.1 * (IntKind.u64.wrap f.2)))+(IntKind.u64.wrap (IntKind.u8.wrap ((IntKind.u8.wrap (j - 97))+10)))))),(99,E),(100,I (u.length:Int)),(101,I d.2.2),(159,B b0)]) ?_ ?_))))))))))))))))
     ·clear g
      refine W.region (va (.int .u64 (IntKind.u64.wrap ((IntKind.u64.wrap (d.2.1 * (IntKind.u64.wrap f.2)))+(IntKind.u64.wrap (IntKind.u8.wrap ((IntKind.u8.wrap (j - 97))+10)))))) (va (.int .u64 (IntKind.u64.wrap (d.2.1 * (IntKind.u64.wrap f.2)))) (va (B (decide ((IntKind.u64.wrap ((IntKind.u64.wrap (d.2.1 * (IntKind.u64.wrap f.2)))+(IntKind.u64.wrap (IntKind.u8.wrap ((IntKind.u8.wrap (j - 97))+10))))) < (IntKind.u64.wrap (d.2.1 * (IntKind.u64.wrap f.2)))))) ?_)))
      rcases bo (decide ((IntKind.u64.wrap ((IntKind.u64.wrap (d.2.1 * (IntKind.u64.wrap f.2)))+(IntKind.u64.wrap (IntKind.u8.wrap ((IntKind.u8.wrap (j - 97))+10))))) < (IntKind.u64.wrap (d.2.1 * (IntKind.u64.wrap f.2))))) with U | U
      ·obtain rfl:=orT U z1
       exact vb U (pz (ps (va (B true) (wln (jn w0 ⟨f1,rfl⟩)))))
      have e3:=orF U z1
      refine vb U (wa (.int .u64 (IntKind.u64.wrap ((IntKind.u64.wrap (d.2.1 * (IntKind.u64.wrap f.2)))+(IntKind.u64.wrap (IntKind.u8.wrap ((IntKind.u8.wrap (j - 97))+10)))))) (wa (.int .u64 (IntKind.u64.wrap ((IntKind.u64.wrap (1 * 2 ^ (min o 64))) - 1))) (wa (B (decide ((IntKind.u64.wrap ((IntKind.u64.wrap (d.2.1 * (IntKind.u64.wrap f.2)))+(IntKind.u64.wrap (IntKind.u8.wrap ((IntKind.u8.wrap (j - 97))+10))))) > (IntKind.u64.wrap ((IntKind.u64.wrap (1 * 2 ^ (min o 64))) - 1))))) ?_)))
      obtain rfl:=si e3
      exact va (B (decide ((IntKind.u64.wrap ((IntKind.u64.wrap (d.2.1 * (IntKind.u64.wrap f.2)))+(IntKind.u64.wrap (IntKind.u8.wrap ((IntKind.u8.wrap (j - 97))+10))))) > (IntKind.u64.wrap ((IntKind.u64.wrap (1 * 2 ^ (min o 64))) - 1))))) (wln (jn w0 ⟨f1,rfl⟩))
     rintro z D ⟨t3,s6,_,rfl,h7,rfl,l3,rfl⟩
     refine nrm (cn g (fun t4 g=>?_) (fun t4 g=>?_))
     ·cases g
     refine W.skip (nrm (W.region (vv (.int .u64 (IntKind.u64.wrap ((IntKind.u64.wrap (d.2.1 * (IntKind.u64.wrap f.2)))+(IntKind.u64.wrap (IntKind.u8.wrap ((IntKind.u8.wrap (j - 97))+10)))))) (WL.nil (bkn (nrm ?_))))))
     obtain rfl:=si g
     exact jn t3 ⟨l3,rfl⟩
    cases g
   rintro z D ⟨u3,t6,_,rfl,i7,rfl,m3,rfl⟩
   refine W.region (vv (I (w64 (d.2.2+1))) (WL.nil ?_))
   obtain rfl:=si a3
   exact ⟨_,rfl,jn u3 ⟨m3,rfl⟩⟩
  refine W.exit (thx ?_)
  obtain rfl:=si t
  exact ⟨_,rfl,rfl,jn N ⟨s0,rfl⟩⟩
 ·exact jn v0 ⟨h3,rfl⟩
 rintro _ z D ⟨rfl,m1,u6,_,rfl,j7,rfl,n3,rfl⟩
 refine bke (nrm (W.seq (W.seq (bn x fun t2 b2 x=>W.join (Jn m1 fun c l=>Own c G (F)∧l= [(13,.int .u64 M.2),(169,B t2)]) ?_ ?_))))
 ·clear x
  refine W.region (va (B M.1) ?_)
  rcases bo (M.1) with d0 | d0
  ·have f3:=anT d0 b2
   cases f3
  obtain rfl:=anF d0 b2
  exact vb d0 (pz (ps (va (B false) (wln (jn m1 ⟨n3,rfl⟩)))))
 rintro z D ⟨v3,v6,_,rfl,k7,rfl,o3,rfl⟩
 refine nrm (cn x (fun u4 x=>?_) (fun u4 x=>?_))
 ·cases x
 refine W.skip (nrm (sr (vv (.int .u64 M.2) (va (.nilIface) (wln (W.ret ?_))))))
 obtain rfl:=si x
 exact r2 (qq v3 ⟨.nilIface,o3,rfl,rfl⟩)
def eg (p0:ByteArray) (p1:Int) (p2:Int):Option (Int×Er):=
 if (eqS p0 (⟨#[]⟩:ByteArray))=true then
 none
 else
 ((gg p0 0).bind fun c=>
 if (c==43)=true then
 (dY p0 1 (bN p0)).bind fun h=>
 some (h,false)
 else
 if (c==45)=true then
 (dY p0 1 (bN p0)).bind fun i=>
 some (i,true)
 else
 some (p0,false)).bind fun b=>
 (db b.1 p1 p2).bind fun a=>
 (cj (!a.2.isNil) none).bind fun e=>
 if e=true then
 some (0,a.2)
 else
 (if (p2==0)=true then
 some (64)
 else
 some (p2)).bind fun j=>
 (shn (IntKind.u64.wrap (w64 (j - 1)))).bind fun d=>
 (cj (!b.2) (some (decide (a.1≥(IntKind.u64.wrap (1 * 2 ^ (min d 64))))))).bind fun f=>
 if f=true then
 none
 else
 (cj b.2 (some (decide (a.1 > (IntKind.u64.wrap (1 * 2 ^ (min d 64))))))).bind fun g=>
 if g=true then
 none
 else
 (if b.2=true then
 some ((w64 (0 - (w64 a.1))))
 else
 some ((w64 a.1))).bind fun k=>
 some (k,Er.nil)
theorem jF (O0:Own c0 G F) (u:ByteArray) (S:Int) (t:Int) {r:Int×Er} (H:eg u S t=some r):
    Calls prog 158 #[.string u,I S,I t] c0.w (aX c0 fun c v=>∃y1,Own c G (F)∧v= .tuple #[I r.1,y1]∧RE 230 87 c y1 r.2):=by
 unfold eg at H
 refine en func158 rfl rfl (sr (va (I 0) (va (.nilIface) (wln (W.seq (sr (va (.string u) (vr (B (eqS u (⟨#[]⟩:ByteArray))) (dP (by kernel_rfl)) (wln (cn H (fun h1 H=>?_) (fun h1 H=>?_)))))))))))
 ·cases H
 refine W.skip (nrm (sr (va (B false) (wln (bn H fun e h n=>W.seqJ (Jn c0 fun c l=>Own c G (F)∧l= [(0,.string e.1),(1,I S),(2,I t),(8,B e.2)]) ?_ ?_)))))
 ·refine sr (va (.string u) (bn h fun i h4 h=>vr (.int .u8 i) (rx (by kernel_rfl) (cp (k:= .i64) u_9 h4 _)) (wln (W.block (sr (vv (B (i==43)) (wln (cn h (fun h5 h=>?_) (fun h5 h=>?_)))))))))
  ·refine W.region (va (.string u) (bn h fun U h6 h=>vr (.string U) (rx (by kernel_rfl) (fN (k:= .i64) u_9 h6 _)) (va (.string U) (WL.nil (bkn (nrm ?_))))))
   obtain rfl:=si h
   exact jn c0 ⟨O0,rfl⟩
  refine sr (vv (B (i==45)) (wln (cn h (fun h7 h=>?_) (fun h7 h=>?_))))
  ·refine sr (va (.string u) (bn h fun X h8 h=>vr (.string X) (rx (by kernel_rfl) (fN (k:= .i64) u_9 h8 _)) (va (.string X) (wln (W.region (va (B true) (WL.nil (bkn (nrm ?_)))))))))
   obtain rfl:=si h
   exact jn c0 ⟨O0,rfl⟩
  refine W.skip (bkn (nrm ?_))
  obtain rfl:=si h
  exact jn c0 ⟨O0,rfl⟩
 rintro N T ⟨c9,q1,_,rfl,l9,rfl,t0,rfl⟩
 refine sr (va (.int .u64 0) (wln (sr (va (.string e.1) (va (I S) (va (I t) (bn n fun d x0 n=>cl (jk t0 e.1 S t x0) ?_)))))))
 rintro v23 d0 x1 ⟨v16,u0,rfl,e0⟩
 refine va (.tuple #[.int .u64 d.1,v16]) (va (.int .u64 d.1) (va (v16) (va (.int .u64 d.1) (va (v16) (wln (W.seq (W.seq (bn n fun j0 f0 n=>W.join (Jn d0 fun c l=>Own c G (F)∧l= [(2,I t),(7,v16),(8,B e.2),(9,.int .u64 d.1),(38,B j0)]) ?_ ?_))))))))
 ·clear n
  refine W.region (va (v16) (vr (B (!d.2.isNil)) (by rcases (e0).cs with ⟨P,R⟩ | ⟨b_,P,R⟩ | ⟨b_,P,R⟩ <;> (subst P; rw [R]; kernel_rfl)) ?_))
  rcases bo (!d.2.isNil) with z | z
  ·have m0:=anT z f0
   cases m0
  obtain rfl:=anF z f0
  exact vb z (pz (ps (va (B false) (wln (jn d0 ⟨u0,rfl⟩)))))
 rintro N T ⟨y,s1,_,rfl,z1,rfl,A,rfl⟩
 refine nrm (cn n (fun y0 n=>?_) (fun y0 n=>?_))
 ·refine sr (va (v16) (va (I 0) (va (v16) (wln (W.ret (thr ?_))))))
  obtain rfl:=si n
  exact r2 (qq y ⟨v16,A,rfl,e0.m⟩)
 refine W.skip (nrm (bn n fun j o f=>W.seqJ (Jn y fun c l=>Own c G (F)∧l= [(2,I j),(8,B e.2),(9,.int .u64 d.1)]) ?_ ?_))
 ·refine sr (va (I t) (va (B (t==0)) (wln (cn o (fun z0 o=>?_) (fun z0 o=>?_)))))
  ·refine W.region (va (I 64) (wln ?_))
   obtain rfl:=si o
   exact jn y ⟨A,rfl⟩
  refine W.skip (nrm ?_)
  obtain rfl:=si o
  exact jn y ⟨A,rfl⟩
 rintro N T ⟨D,t1,_,rfl,b2,rfl,Z,rfl⟩
 refine sr (va (I j) (va (I (w64 (j - 1))) (va (.int .u64 (IntKind.u64.wrap (w64 (j - 1)))) (bn f fun g a1 f=>vr (.int .u64 (IntKind.u64.wrap (1 * 2 ^ (min g 64)))) (qB (k':= .u64) (a:=1) (b:=(IntKind.u64.wrap (w64 (j - 1)))) a1 (by kernel_rfl) _) (va (.int .u64 (IntKind.u64.wrap (1 * 2 ^ (min g 64)))) (wln (W.seq (W.seq (bn f fun k0 g0 f=>W.join (Jn D fun c l=>Own c G (F)∧l= [(8,B e.2),(9,.int .u64 d.1),(10,.int .u64 (IntKind.u64.wrap (1 * 2 ^ (min g 64)))),(52,B k0)]) ?_ ?_)))))))))
 ·clear f
  refine W.region (va (B e.2) (va (B (!e.2)) ?_))
  rcases bo (!e.2) with q | q
  ·have o0:=anT q g0
   refine vb q (wa (.int .u64 d.1) (wa (.int .u64 (IntKind.u64.wrap (1 * 2 ^ (min g 64)))) (wa (B (decide (d.1≥(IntKind.u64.wrap (1 * 2 ^ (min g 64)))))) ?_)))
   obtain rfl:=si o0
   exact va (B (decide (d.1≥(IntKind.u64.wrap (1 * 2 ^ (min g 64)))))) (wln (jn D ⟨Z,rfl⟩))
  obtain rfl:=anF q g0
  exact vb q (pz (ps (va (B false) (wln (jn D ⟨Z,rfl⟩)))))
 rintro N T ⟨E,u1,_,rfl,c2,rfl,a0,rfl⟩
 refine nrm (cn f (fun b1 f=>?_) (fun b1 f=>?_))
 ·cases f
 refine W.skip (nrm (W.seq (W.seq (bn f fun l0 h0 f=>W.join (Jn E fun c l=>Own c G (F)∧l= [(8,B e.2),(9,.int .u64 d.1),(10,.int .u64 (IntKind.u64.wrap (1 * 2 ^ (min g 64)))),(62,B l0)]) ?_ ?_))))
 ·clear f
  refine W.region (va (B e.2) ?_)
  rcases bo (e.2) with s | s
  ·have q0:=anT s h0
   refine vb s (wa (.int .u64 d.1) (wa (.int .u64 (IntKind.u64.wrap (1 * 2 ^ (min g 64)))) (wa (B (decide (d.1 > (IntKind.u64.wrap (1 * 2 ^ (min g 64)))))) ?_)))
   obtain rfl:=si q0
   exact va (B (decide (d.1 > (IntKind.u64.wrap (1 * 2 ^ (min g 64)))))) (wln (jn E ⟨a0,rfl⟩))
  obtain rfl:=anF s h0
  exact vb s (pz (ps (va (B false) (wln (jn E ⟨a0,rfl⟩)))))
 rintro N T ⟨M,v1,_,rfl,d2,rfl,b0,rfl⟩
 refine nrm (cn f (fun c1 f=>?_) (fun c1 f=>?_))
 ·cases f
 refine W.skip (nrm (sr (va (.int .u64 d.1) (vv (I (w64 d.1)) (wln (bn f fun x p s0=>W.seqJ (Jn M fun c l=>Own c G (F)∧l= [(11,I x)]) ?_ ?_))))))
 ·refine sr (va (B e.2) (wln (cn p (fun d1 p=>?_) (fun d1 p=>?_))))
  ·refine W.region (va (I (w64 d.1)) (vv (I (w64 (0 - (w64 d.1)))) (wln ?_)))
   obtain rfl:=si p
   exact jn M ⟨b0,rfl⟩
  refine W.skip (nrm ?_)
  obtain rfl:=si p
  exact jn M ⟨b0,rfl⟩
 rintro N T ⟨w0,w1,_,rfl,e2,rfl,v0,rfl⟩
 refine sr (vv (I x) (va (.nilIface) (wln (W.ret ?_))))
 obtain rfl:=si s0
 exact r2 (qq w0 ⟨.nilIface,v0,rfl,rfl⟩)
def dK (p0:ByteArray) (p1:Int) (p2:Int):Option (Int×Er):=
 (eg p0 p1 p2).bind fun a=>
 if (!a.2.isNil)=true then
 none
 else
 some (a.1,Er.nil)
theorem kw (j:Own c0 G F) (e:ByteArray) (f:Int) (g:Int) {r:Int×Er} (H:dK e f g=some r): Calls prog 163 #[.string e,I f,I g] c0.w (aX c0 fun c v=>∃i,Own c G (F)∧v= .tuple #[I r.1,i]∧RE 230 87 c i r.2):=by
 unfold dK at H;refine en func163 rfl rfl (sr (va (I 0) (va (.nilIface) (wln (sr (va (.string e) (va (I f) (va (I g) (bn H fun a n H=>cl (jF j e f g n) ?_)))))))));rintro v9 m p ⟨v2,k,rfl,o⟩;refine va (.tuple #[I a.1,v2]) (va (I a.1) (va (v2) (va (I a.1) (va (v2) (wln (W.seq (sr (va (v2) (vr (B (!a.2.isNil)) (by rcases (o).cs with ⟨b,d⟩ | ⟨l,b,d⟩ | ⟨l,b,d⟩ <;> (subst b; rw [d]; kernel_rfl)) (wln (cn H (fun h H=>?_) (fun h H=>?_))))))))))))
 ·cases H
 refine W.skip (nrm (sr (vv (I a.1) (va (.nilIface) (wln (W.ret ?_))))));obtain rfl:=si H;exact r2 (qq m ⟨.nilIface,k,rfl,rfl⟩)
def cV (p0:ByteArray) (p1:ByteArray):Option (Bool):=
 (cj (decide ((bN p0)≥(bN p1))) ((dY p0 0 (bN p1)).bind fun a=>
 some (eqS a p1))).bind fun b=>
 some b
theorem iv (g:Own c0 G F) (d:ByteArray) (a:ByteArray) {r:Bool} (H:cV d a=some r): Calls prog 154 #[.string d,.string a] c0.w (aX c0 fun c v=>Own c G (F)∧v=B r):=by
 unfold cV at H;refine en func154 rfl rfl (sr (va (B false) (wln (W.seq (bn H fun h i H=>W.join (Jn c0 fun c l=>Own c G (F)∧l= [(4,B h)]) ?_ ?_)))))
 ·clear H;refine W.region (va (.string d) (vr (I (bN d)) (rx (by kernel_rfl) (dy (ty:=3) u_9 _)) (va (.string a) (vr (I (bN a)) (rx (by kernel_rfl) (dy (ty:=3) u_9 _)) (va (B (decide ((bN d)≥(bN a)))) ?_)))));rcases bo (decide ((bN d)≥(bN a))) with e | e
  ·have f:=anT e i;refine vb e (wa (.string d) (wa (.string a) (wn (vr (I (bN a)) (rx (by kernel_rfl) (dy (ty:=3) u_9 _)) (wn (bn f fun b m f=>vr (.string b) (rx (by kernel_rfl) (nO (k':= .i64) u_9 m _)) (wa (.string a) (wn (vr (B (eqS b a)) (dP (by kernel_rfl)) ?_)))))))));obtain rfl:=si f;exact vv (B (eqS b a)) (wln (jn c0 ⟨g,rfl⟩))
  obtain rfl:=anF e i;exact vb e (pz (pz (pz (vv (B false) (wln (jn c0 ⟨g,rfl⟩))))))
 rintro n q ⟨k,o,_,rfl,p,rfl,j,rfl⟩;refine nrm (W.ret ?_);obtain rfl:=si H;exact r1 (qq k ⟨j,rfl⟩)
def dz (p0:ByteArray) (p1:ByteArray):Option (Bool):=
 (cV p0 p1).bind fun a=>
 some a
theorem jY (e:Own c0 G F) (a:ByteArray) (b:ByteArray) {r:Bool} (H:dz a b=some r): Calls prog 141 #[.string a,.string b] c0.w (aX c0 fun c v=>Own c G (F)∧v=B r):=by
 unfold dz at H;refine en func141 rfl rfl (sr (va (B false) (wln (sr (va (.string a) (va (.string b) (bn H fun d h H=>cl (iv e a b h) ?_)))))));rintro v7 g i ⟨f,rfl⟩;refine va (B d) (wln (W.ret ?_));obtain rfl:=si H;exact r1 (qq g ⟨f,rfl⟩)
end Go.Proofs.YtmncdniojmigeaaGreatDoor
