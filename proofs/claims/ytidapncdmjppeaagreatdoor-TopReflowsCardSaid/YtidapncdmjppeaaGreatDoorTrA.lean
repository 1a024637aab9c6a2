/- Parts of the proofs of TopReflows: the walk through the code, and plain Lean. No condition. -/
import Derived.WalkKit
import Derived.KernelRfl
import Derived.TacticsIn
import Derived.LoopNIn
import Derived.OrdersIn
import Derived.Laws.BytesString
import Derived.Laws.Concat
import Derived.Laws.Strings
import Derived.Laws.Strings2
import Derived.Laws.Strings3
import Derived.Laws.Slices
import Derived.Lib.ConvBytes
import Derived.Test.YtidapncdmjppeaaGreatDoorProg
import Derived.Shelf.Strings.Split
import Derived.Shelf.Strings.Cut
import Derived.Shelf.Strings.SlTrimAscii
import Derived.Shelf.Small.Wraps
import Derived.Shelf.Small.Strs
import Derived.Lib.ItoaMem
import Derived.Lib.LaidTab
import Derived.Shelf.Strconv.Itoa3
import Derived.Shelf.Strconv.Atoi
import Derived.Shelf.Strings.OnBuilder
set_option linter.unusedVariables false
set_option linter.unusedSimpArgs false
abbrev dX:=@Go.Addr.add_lit
abbrev HP:=@Array.ext'
abbrev ck:=@Array.getD_eq_getD_getElem?
abbrev jU:=@Array.getElem?_eq_none
abbrev uh:=@Array.getElem?_modify
abbrev GC:=@Array.getElem?_toList
abbrev Ht:=@Array.length_toList
abbrev H9:=@Array.toList_map
abbrev Hp:=@BitVec.ofInt_natCast
abbrev HO:=@BitVec.toNat_ofNat
abbrev ug:=@Bool.and_eq_false_iff
abbrev aw:=@Bool.and_eq_true
abbrev vF:=@Bool.and_false
abbrev wF:=@Bool.and_true
abbrev fR:=@Bool.eq_false_or_eq_true
abbrev cG:=@Bool.eq_iff_iff
abbrev lv:=@Bool.false_and
abbrev ak:=@Bool.false_eq_true
abbrev km:=@Bool.false_or
abbrev H3:=@Bool.not_eq_true
abbrev em:=@Bool.not_eq_true'
abbrev iD:=@Bool.not_false
abbrev cW:=@Bool.not_true
abbrev vD:=@Bool.or_eq_false_iff
abbrev aF:=@Bool.or_eq_true
abbrev fQ:=@Bool.true_and
abbrev oT:=@Go.ByteArray.toList_eq
abbrev DM:=@Classical.byContradiction
abbrev HV:=@Go.DataW.trod_struct
abbrev Ff:=@Go.WideShapes.add_plain
abbrev tA:=@Iff.rfl
abbrev HM:=@Int.natCast_nonneg
abbrev pf:=@Int.ofNat_lt
abbrev DK:=@Int.tmod_eq_emod_of_nonneg
abbrev aZ:=@Int.toNat_natCast
abbrev oS:=@Int.toNat_of_nonneg
abbrev Ai:=@Go.IntKind.wrap_i64
abbrev sv:=@List.all_eq_true
abbrev aI:=@List.append_assoc
abbrev Gy:=@List.append_inj_right'
abbrev dy:=@List.append_nil
abbrev da:=@List.cons_append
abbrev H1:=@List.cons_ne_nil
abbrev GB:=@List.contains_iff_mem
abbrev oq:=@List.drop_append_of_le_length
abbrev dk:=@List.drop_drop
abbrev lD:=@List.drop_eq_getElem_cons
abbrev jI:=@List.drop_left
abbrev Gx:=@List.drop_of_length_le
abbrev ga:=@List.drop_take
abbrev mZ:=@List.drop_zero
abbrev bW:=@List.eq_nil_of_length_eq_zero
abbrev H0:=@List.ext_getElem
abbrev bZ:=@List.ext_getElem?
abbrev lM:=@List.flatMap_append
abbrev kK:=@List.flatMap_cons
abbrev HZ:=@List.flatMap_nil
abbrev Hs:=@List.flatten_append
abbrev qO:=@List.flatten_cons
abbrev gu:=@List.foldl_append
abbrev Ie:=@List.foldl_cons
abbrev av:=@List.getD_eq_getElem?_getD
abbrev eL:=@List.getElem?_append
abbrev aB:=@List.getElem?_append_left
abbrev aG:=@List.getElem?_append_right
abbrev Fa:=@List.getElem?_cons_succ
abbrev jH:=@List.getElem?_cons_zero
abbrev bM:=@List.getElem?_drop
abbrev ab:=@List.getElem?_eq_getElem
abbrev aR:=@List.getElem?_eq_none
abbrev bm:=@List.getElem?_map
abbrev dh:=@List.getElem?_range
abbrev Hk:=@List.getElem?_range'
abbrev mx:=@List.getElem?_replicate
abbrev kJ:=@List.getElem?_set
abbrev aU:=@List.getElem?_set_ne
abbrev bf:=@List.getElem?_set_self
abbrev aP:=@List.getElem?_take
abbrev bI:=@List.getElem?_toArray
abbrev rj:=@List.getElem_append_left
abbrev qz:=@List.getElem_append_right
abbrev Gv:=@List.getElem_cons_succ
abbrev Gu:=@List.getElem_cons_zero
abbrev eK:=@List.getElem_map
abbrev aJ:=@List.getElem_mem
abbrev xI:=@List.getElem_range
abbrev gQ:=@List.getElem_replicate
abbrev HY:=@List.getElem_set
abbrev aj:=@List.length_append
abbrev az:=@List.length_cons
abbrev bj:=@List.length_drop
abbrev eF:=@List.length_map
abbrev aH:=@List.length_nil
abbrev qN:=@List.length_range
abbrev er:=@List.length_replicate
abbrev cf:=@List.length_set
abbrev aA:=@List.length_take
abbrev bA:=@List.map_append
abbrev ek:=@List.map_congr_left
abbrev eB:=@List.map_cons
abbrev Ic:=@List.map_const'
abbrev Gt:=@List.map_map
abbrev tz:=@List.map_nil
abbrev xH:=@List.map_singleton
abbrev tQ:=@List.mem_append
abbrev de:=@List.mem_append_left
abbrev nt:=@List.mem_append_right
abbrev jm:=@List.mem_cons
abbrev iW:=@List.mem_cons_of_mem
abbrev mj:=@List.mem_cons_self
abbrev iV:=@List.mem_of_mem_drop
abbrev dP:=@List.mem_of_mem_take
abbrev DL:=@List.mem_or_eq_of_mem_set
abbrev zr:=@List.mem_range'_1
abbrev bS:=@List.nil_append
abbrev HU:=@List.nodup_range'
abbrev fG:=@List.not_mem_nil
abbrev HK:=@List.range'_concat
abbrev Ib:=@List.range_succ
abbrev Hj:=@List.replicate_succ'
abbrev dH:=@List.set_append_right
abbrev qa:=@List.set_cons_zero
abbrev GA:=@List.set_getElem_self
abbrev zq:=@List.size_toArray
abbrev oL:=@List.sum_append
abbrev kk:=@List.sum_cons
abbrev Ah:=@List.take_append
abbrev iE:=@List.take_append_drop
abbrev fZ:=@List.take_append_of_le_length
abbrev DJ:=@List.take_left
abbrev dW:=@List.take_length
abbrev aT:=@List.take_of_length_le
abbrev Hr:=@List.take_succ_cons
abbrev ax:=@List.take_succ_eq_append_getElem
abbrev lu:=@List.take_take
abbrev lq:=@List.take_zero
abbrev xG:=@List.zip_cons_cons
abbrev rh:=@Nat.add_assoc
abbrev fY:=@Nat.add_mul
abbrev pZ:=@Nat.add_sub_cancel
abbrev pb:=@Nat.add_zero
abbrev ns:=@Nat.ble_eq_true_of_le
abbrev uf:=@Nat.eq_of_beq_eq_true
abbrev pY:=@Nat.eq_zero_or_pos
abbrev bH:=@Nat.le_of_ble_eq_true
abbrev ao:=@Nat.le_refl
abbrev zp:=@Nat.le_succ_of_le
abbrev dI:=@Nat.le_trans
abbrev fF:=@Nat.lt_of_lt_of_le
abbrev aL:=@Nat.lt_or_ge
abbrev HJ:=@Nat.lt_or_gt_of_ne
abbrev HT:=@Nat.lt_succ_of_lt
abbrev HX:=@Nat.lt_succ_self
abbrev AY:=@Nat.min_def
abbrev cN:=@Nat.min_eq_left
abbrev Ag:=@Nat.mod_eq_of_lt
abbrev HI:=@Nat.mod_lt
abbrev oo:=@Nat.mul_le_mul_right
abbrev Hi:=@Nat.mul_one
abbrev BZ:=@Nat.not_lt_zero
abbrev mw:=@Nat.one_mul
abbrev dd:=@Nat.sub_self
abbrev zo:=@Nat.sub_zero
abbrev aK:=@Nat.succ_pos
abbrev iU:=@Nat.zero_add
abbrev db:=@Nat.zero_le
abbrev tw:=@Nat.zero_mul
abbrev tv:=@Ne.symm
abbrev EX:=@Go.Oper.semAt_eq
abbrev HS:=@Go.Oper.uponIn_value
abbrev HR:=@Option.bind_assoc
abbrev E9:=@Option.bind_eq_some_iff
abbrev Af:=@Option.bind_some
abbrev bG:=@Option.isNone_some
abbrev fk:=@Option.map_some
abbrev aq:=@Option.some.inj
abbrev aM:=@Option.some.injEq
abbrev jl:=@Prod.mk.injEq
abbrev mY:=@Go.Result.andThen_ok
abbrev cU:=@Go.RowKit.Below.heap_alloc
abbrev kI:=@Go.RowKit.Below.refl
abbrev DI:=@Go.RowKit.frozen?_alloc_cells
abbrev fO:=@Go.Sem.run_bind
abbrev zn:=@Go.Sem.run_pure
abbrev rf:=@Sum.inl.injEq
abbrev fX:=@Go.World.cell?_alloc_lt
abbrev dO:=@Go.World.cell?_of_block
abbrev mu:=@Go.World.frozen?_alloc_old
abbrev HH:=@Go.World.keptBut_mono
abbrev BX:=@Go.World.var?_cell
abbrev zj:=@and_true
abbrev ej:=@beq_eq_false_iff_ne
abbrev aX:=@beq_iff_eq
abbrev HW:=@beq_self_eq_true
abbrev nH:=@bne_iff_ne
abbrev fV:=@Go.cell_of_row
abbrev HG:=@cond_false
abbrev kW:=@congrArg
abbrev ny:=@decide_eq_decide
abbrev gp:=@decide_eq_false_iff_not
abbrev Dd:=@decide_eq_true
abbrev an:=@decide_eq_true_eq
abbrev jR:=@decide_true
abbrev vG:=@dif_neg
abbrev sR:=@dif_pos
abbrev HF:=@Go.execOp_put
abbrev zL:=@ge_iff_le
abbrev GU:=@Go.getD_set_ne
abbrev GT:=@Go.grownCap_ge
abbrev xh:=@Go.grownCap_le_maxLen
abbrev uY:=@Go.heap_alloc_new
abbrev aY:=@if_false
abbrev ag:=@if_neg
abbrev af:=@if_pos
abbrev bF:=@if_true
abbrev CI:=@ne_eq
abbrev FJ:=@not_and
abbrev qD:=@not_false_eq_true
abbrev CH:=@not_or
abbrev HB:=@of_decide_eq_false
abbrev ky:=@of_decide_eq_true
abbrev pu:=@or_false
abbrev Hz:=@Go.ready_mono
abbrev Ia:=@Go.run_append_room
abbrev cH:=@Go.run_callFunc_extern
abbrev Hq:=@Go.run_firstCells_some
abbrev Hv:=@Go.run_sliceAt_string
abbrev yb:=@Go.run_storeCells_at
abbrev bY:=@Go.run_underlying
abbrev Ao:=@Go.setRow_heap
abbrev Fv:=@Go.setRow_other
abbrev uv:=@true_and
abbrev zt:=@Go.wpIn_mono
abbrev B0:=@Go.wpListIn_plain
namespace Go.Lt
structure Fr where
 n:Nat
 df:List Deferred
 ro:Option Nat
instance:CoeOut Fr Nat:=⟨Fr.n⟩
def fen (r:Option Nat):Fence:={ Fence.wide with round:=r}
def act (n:Fr) (e:Nat→Value):Act:={ tmps:=((List.range n.n).map e).toArray,defers:=n.df}
def ev (n:Nat) (e:Nat→Value):Operand→Value
 | .tmp t=>cond (Nat.ble (t+1) n) (e t) undef
 | .const v=>v
 | .global g=> .pointer (some ⟨g,0,none⟩)
 | .func f=> .func (.func f) #[] #[]
def up (e:Nat→Value) (d:Nat) (v:Value):Nat→Value:=fun t=>cond (Nat.beq t d) v (e t)
def upO (e:Nat→Value):Option Nat→Value→(Nat→Value)
 | some d,v=>up e d v
 | none,_=>e
theorem mX (n:Fr) (e:Nat→Value):(act n e).eval=ev n e:=by
 funext x
 cases x with
 | tmp t=>
  simp only [Act.eval,act,ev];by_cases h:t < n.n
  ·have:Nat.ble (t+1) n.n=true:=ns h;simp [h,this]
  ·have:Nat.ble (t+1) n.n=false:=by
    cases hb:Nat.ble (t+1) n.n with
    | false=>rfl
    | true=>exact absurd (bH hb) h
   simp [h,this]
 | const v=>rfl
 | global g=>rfl
 | func f=>rfl
theorem su (n:Fr) (e:Nat→Value) (d:Option Nat) (v:Value):(act n e).put d v=act n (upO e d v):=by
 cases d with
 | none=>rfl
 | some d=>
  simp only [Act.put,act,upO]
  congr 1
  apply Array.ext
  ·simp
  ·intro i h1 h2;simp only [zq,eF,qN,Array.size_setIfInBounds] at h1 h2;by_cases hi:d=i
   ·subst hi; simp [up]
   ·have:Nat.beq i d=false:=by
     cases hb:Nat.beq i d with
     | false=>rfl
     | true=>exact absurd (uf hb).symm hi
    simp [up,hi,this]
def Hu:Exit→Prop
 | .panic _=>False
 | .outgrown=>False
 | _=>True
def yq (n:Fr) (Q:Exit→(Nat→Value)→World→Prop):Exit→Act→World→Prop:=fun x a w=>Hu x∧∃e,a=act n e∧Q x e w
def W (P:Program) (n:Fr) (c:Code) (Q:Exit→(Nat→Value)→World→Prop) (e:Nat→Value) (w:World):Prop:=c.wpIn (fen n.ro) 0 P (yq n Q) (act n e) w
def tD (K:(Nat→Value)→World→Prop) (Q:Exit→(Nat→Value)→World→Prop):Exit→(Nat→Value)→World→Prop
 | .normal,e,w=>K e w
 | x,e,w=>Q x e w
def oJ (id:Nat) (Q:Exit→(Nat→Value)→World→Prop):Exit→(Nat→Value)→World→Prop
 | .exit i,e,w=>cond (Nat.beq i id) (Q .normal e w) (Q (.exit i) e w)
 | x,e,w=>Q x e w
section
variable {P:Program} {n:Fr} {Q Q':Exit→(Nat→Value)→World→Prop} {e:Nat→Value} {w:World} {a b:Code}
theorem W.mono (h:W P n a Q e w) (hq:∀x e w,Q x e w→Q' x e w):W P n a Q' e w:=
 zt h fun x _ w ⟨ht,e,ha,hQ⟩=>⟨ht,e,ha,hq x e w hQ⟩
theorem W.seq (h:W P n a (tD (W P n b Q) Q) e w):W P n (a.seq b) Q e w:=
 wpIn_seq (zt h fun x a' w' ⟨ht,e',ha,hQ⟩=>by
  subst ha
  cases x with
  | normal=>exact hQ
  | _=>exact ⟨ht,e',rfl,hQ⟩)
theorem W.seqJ (J:(Nat→Value)→World→Prop) (h:W P n a (tD J Q) e w) (hJ:∀e w,J e w→W P n b Q e w):W P n (a.seq b) Q e w:=
 W.seq (W.mono h fun x e w hx=>by cases x <;> first | exact hJ _ _ hx | exact hx)
theorem W.skip (h:Q .normal e w):W P n .skip Q e w:=wpIn_skip ⟨trivial,e,rfl,h⟩
theorem W.ret (h:Q .ret e w):W P n .ret Q e w:=wpIn_ret ⟨trivial,e,rfl,h⟩
theorem W.exit {id:Nat} (h:Q (.exit id) e w):W P n (.exit id) Q e w:=wpIn_exit ⟨trivial,e,rfl,h⟩
theorem W.block {id:Nat} (h:W P n a (oJ id Q) e w):W P n (.block id a) Q e w:=
 wpIn_block (zt h fun x a' w' ⟨ht,e',ha,hQ⟩=>by
  subst ha
  cases x with
  | exit i=>
   simp only [Exit.inBlock];by_cases hi:i=id
   ·subst hi;rw [af rfl];exact ⟨trivial,e',rfl,by simpa [oJ] using hQ⟩
   ·rw [ag hi];have:Nat.beq i id=false:=by
     cases hb:Nat.beq i id with
     | false=>rfl
     | true=>exact absurd (uf hb) hi
    exact ⟨trivial,e',rfl,by simpa [oJ,this] using hQ⟩
  | _=>exact ⟨ht,e',rfl,hQ⟩)
theorem W.cond {c:Operand} {t:Bool} (hc:ev n e c= .bool t) (ht:t=true→W P n a Q e w) (hf:t=false→W P n b Q e w):W P n (.cond c a b) Q e w:=
 wpIn_cond_split (by rw [mX]; exact hc) ht hf
def WL (P:Program) (ops:Array Oper) (n:Fr) (Q:Exit→(Nat→Value)→World→Prop) (l:List Oper) (e:Nat→Value) (w:World):Prop:=
 wpListIn (fen n.ro) 0 P ops (yq n Q) l (act n e) w
theorem W.region {id:Nat} {l:List Oper} (h:WL P l.toArray n Q l e w):W P n (.region id l.toArray false) Q e w:=wpIn_region_lit h
variable {ops:Array Oper} {o:Oper} {rest:List Oper}
theorem WL.nil (h:Q .normal e w):WL P ops n Q [] e w:=⟨trivial,e,rfl,h⟩
theorem ru {r:Option Nat} {ρ:Operand→Value} {w w':World} {x:Next} (h:(execOp ρ o).run P w= .ok x w') (hx:∀d,x≠ .defer d):(o.semAt r ρ).run P w= .ok x w':=by
 by_cases hd:∀c,o.op≠ .defer c
 ·rw [EX r ρ o hd]; exact h
 ·obtain ⟨c,hc⟩:=Classical.not_forall.1 hd;have hc:=Classical.not_not.1 hc;unfold execOp at h;rw [hc] at h;simp only [fO,zn] at h
  cases hr:(resolve ρ c o.type).run P w with
  | ok d w1=>rw [hr] at h; simp only [Result.andThen,Result.ok.injEq] at h; exact absurd h.1.symm (hx d)
  | halt h1 w1=>rw [hr] at h; simp [Result.andThen] at h
theorem yP {r:Option Nat} {k:Nat} {f:FuncId} {args:Array Value} {w:World} {R:Ending→World→Prop} (h:Calls P f args w R):CallsIn (fen r) k P f args w R:=(callsIn_wide (n:=k)).2 h
theorem CC {v:Value} {w':World} {K:Act→World→Prop} {Qa:Exit→Act→World→Prop} (hr:(execOp (ev n e) o).run P w= .ok (.value v) w') (h:K (act n (upO e o.dst v)) w'):o.wpIn (fen n.ro) 0 P (act n e) w K Qa:=by
 refine ⟨fun _ _=>trivial,?_⟩;rw [mX,ru hr (by simp),HS,su];exact h
theorem E3 {w':World} {K:Act→World→Prop} {Qa:Exit→Act→World→Prop} (hr:(execOp (ev n e) o).run P w= .ok .skip w') (h:K (act n (upO e o.dst undef)) w'):o.wpIn (fen n.ro) 0 P (act n e) w K Qa:=by
 refine ⟨fun _ _=>trivial,?_⟩;rw [mX,ru hr (by simp),Oper.uponIn_skip,su];exact h
theorem Ay {f:FuncId} {args:Array Value} {w':World} {K:Act→World→Prop} {Qa:Exit→Act→World→Prop} (hr:(execOp (ev n e) o).run P w= .ok (.enter f args) w')
  (hc:Calls P f args w' fun x w''=>∃v,x= .returned v∧K (act n (upO e o.dst v)) w''):o.wpIn (fen n.ro) 0 P (act n e) w K Qa:=by
 refine ⟨fun _ _=>trivial,?_⟩;rw [mX,ru hr (by simp),Oper.uponIn_enter];refine ⟨fun h=>(by cases h),(yP hc).mono ?_⟩;rintro x w'' ⟨v,rfl,h⟩;simp only [su];exact h
theorem WL.val {v:Value} {w':World} (hg:o.guard=none) (hr:(execOp (ev n e) o).run P w= .ok (.value v) w') (h:WL P ops n Q rest (upO e o.dst v) w'):WL P ops n Q (o :: rest) e w:=
 B0 hg fun K hK=>CC hr (hK _ _ h)
theorem WL.do_ {w':World} (hg:o.guard=none) (hr:(execOp (ev n e) o).run P w= .ok .skip w') (h:WL P ops n Q rest (upO e o.dst undef) w'):WL P ops n Q (o :: rest) e w:=
 B0 hg fun K hK=>E3 hr (hK _ _ h)
theorem WL.call {f:FuncId} {args:Array Value} {w':World} (hg:o.guard=none) (hr:(execOp (ev n e) o).run P w= .ok (.enter f args) w')
  (hc:Calls P f args w' fun x w''=>∃v,x= .returned v∧WL P ops n Q rest (upO e o.dst v) w''):WL P ops n Q (o :: rest) e w:=
 B0 hg fun K hK=>Ay hr (hc.mono fun x w'' ⟨v,hx,h⟩=>⟨v,hx,hK _ _ h⟩)
def yl (ops:Array Oper) (n:Nat) (e:Nat→Value) (j:Nat):Option Bool:=
 match (ops[j]?).bind Oper.dst with
 | some d=>match ev n e (.tmp d) with
  | .bool b=>some b
  | _=>none
 | none=>none
def gE (ops:Array Oper) (n:Nat) (e:Nat→Value) (o:Oper):Bool:=
 match o.guard with
 | none=>true
 | some (j,want)=>yl ops n e j==some want
theorem nI (ops:Array Oper) (n:Fr) (e:Nat→Value) (o:Oper) (h:∀d,(∃j:Nat,(ops[j]?).bind Oper.dst=some d)→d < n.n):
  Region.wanted o (yielded ops (act n e).tmps)=gE ops n e o:=by
 unfold Region.wanted gE
 cases hg:o.guard with
 | none=>rfl
 | some jw=>
  obtain ⟨j,want⟩:=jw;simp only
  congr 1
  unfold yielded yl
  cases hd:(ops[j]?).bind Oper.dst with
  | none=>rfl
  | some d=>
   have hdn:=h d ⟨j,hd⟩;have:Nat.ble (d+1) n.n=true:=ns hdn;simp only [act,ev,Af,this,cond_true];simp only [bI,bm,dh hdn,fk]
   cases e d <;> rfl
def eG (n:Nat):List Oper→Bool
 | []=>true
 | o :: l=>(match o.dst with | some d=>Nat.ble (d+1) n | none=>true) && eG n l
theorem jK {n:Nat} {l:List Oper} (h:eG n l=true) (d:Nat) (hd:∃j:Nat,(l.toArray[j]?).bind Oper.dst=some d):d < n:=by
 obtain ⟨j,hj⟩:=hd;simp only [bI] at hj
 induction l generalizing j with
 | nil=>simp at hj
 | cons o l ih=>
  simp only [eG,aw] at h
  cases j with
  | zero=>
   simp only [jH,Af] at hj;rw [hj] at h;exact bH h.1
  | succ j=>exact ih h.2 j (by simpa using hj)
theorem WL.pass {l:List Oper} (hs:eG n l=true) (hw:gE l.toArray n e o=false) (h:WL P l.toArray n Q rest (upO e o.dst undef) w):WL P l.toArray n Q (o :: rest) e w:=by
 have hww:Region.wanted o (yielded l.toArray (act n e).tmps)=false:=by rw [nI _ _ _ _ (jK hs)]; exact hw
 unfold WL wpListIn;rw [ag (by rw [hww]; simp),su];exact ⟨fun _ _=>trivial,h⟩
theorem WL.want {l:List Oper} (hs:eG n l=true) (hw:gE l.toArray n e o=true) (h:WL P l.toArray n Q ({ o with guard:=none} :: rest) e w):WL P l.toArray n Q (o :: rest) e w:=by
 have hww:Region.wanted o (yielded l.toArray (act n e).tmps)=true:=by rw [nI _ _ _ _ (jK hs)]; exact hw
 have hg:Region.wanted ({ o with guard:=none}:Oper) (yielded l.toArray (act n e).tmps)=true:=rfl;unfold WL wpListIn at h⊢;rw [af hww];rw [af hg] at h;exact h
theorem W.join (J:(Nat→Value)→World→Prop) (h:W P n a (tD J (fun _ _ _=>False)) e w) (hJ:∀e w,J e w→Q .normal e w):W P n a Q e w:=
 W.mono h fun x e w hx=>by cases x <;> first | exact hJ _ _ hx | exact hx.elim
theorem nrm {K:(Nat→Value)→World→Prop} (h:K e w):tD K Q .normal e w:=h
theorem thx {K:(Nat→Value)→World→Prop} {i:Nat} (h:Q (.exit i) e w):tD K Q (.exit i) e w:=h
theorem thr {K:(Nat→Value)→World→Prop} (h:Q .ret e w):tD K Q .ret e w:=h
theorem bkn {i:Nat} (h:Q .normal e w):oJ i Q .normal e w:=h
theorem bkr {i:Nat} (h:Q .ret e w):oJ i Q .ret e w:=h
theorem bke {i:Nat} (h:Q .normal e w):oJ i Q (.exit i) e w:=by
 have:Nat.beq i i=true:=Nat.beq_refl i;simpa [oJ,this] using h
theorem bko {i j:Nat} (hij:Nat.beq j i=false) (h:Q (.exit j) e w):oJ i Q (.exit j) e w:=by simpa [oJ,hij] using h
theorem WL.valb {t b:Bool} {w':World} (ht:t=b) (hg:o.guard=none) (hr:(execOp (ev n e) o).run P w= .ok (.value (.bool t)) w') (h:WL P ops n Q rest (upO e o.dst (.bool b)) w'):WL P ops n Q (o :: rest) e w:=by
 subst ht;exact WL.val hg hr h
theorem WL.val0 {v:Value} (hg:o.guard=none) (hr:(execOp (ev n e) o).run P w= .ok (.value v) w) (h:WL P ops n Q rest (upO e o.dst v) w):WL P ops n Q (o :: rest) e w:=WL.val hg hr h
theorem WL.valb0 {t b:Bool} (ht:t=b) (hg:o.guard=none) (hr:(execOp (ev n e) o).run P w= .ok (.value (.bool t)) w) (h:WL P ops n Q rest (upO e o.dst (.bool b)) w):WL P ops n Q (o :: rest) e w:=WL.valb ht hg hr h
def cO {σ τ:Type}:Nat→(σ→Option (σ ⊕ τ))→σ→Option τ
 | 0,_,_=>none
 | n+1,f,s=>(f s).bind fun x=>match x with
  | .inl s'=>cO n f s'
  | .inr t=>some t
def lpQ {σ τ:Type} (F:σ→(Nat→Value)→World→Prop) (Out:τ→Exit→(Nat→Value)→World→Prop) (x:σ ⊕ τ):Exit→(Nat→Value)→World→Prop
 | .normal,e,w=>∃s,x= .inl s∧F s e w
 | ex,e,w=>∃t,x= .inr t∧Out t ex e w
theorem W.loop {σ τ:Type} {step:σ→Option (σ ⊕ τ)} (F:σ→(Nat→Value)→World→Prop) (Out:τ→Exit→(Nat→Value)→World→Prop)
  (hb:∀s x e w,step s=some x→F s e w→W P n a (lpQ F Out x) e w) {fuel:Nat} {s:σ} {t:τ} (H:cO fuel step s=some t) (h0:F s e w)
  (hQ:∀x e w,Out t x e w→Q x e w):W P n (.loop a) Q e w:=by
 refine wpIn_loop_rounds fuel ?_
 induction fuel generalizing s e w with
 | zero=>cases H
 | succ k ih=>
  rw [roundsIn_succ];simp only [cO] at H
  cases hs:step s with
  | none=>rw [hs] at H; cases H
  | some x=>
   rw [hs] at H;refine zt (hb s x e w hs h0) ?_;rintro y a' w' ⟨ht,e',rfl,hq⟩
   cases x with
   | inl s'=>
    cases y with
    | normal=>
     obtain ⟨s1,h1,h2⟩:=hq;cases h1;exact ih H h2
    | _=>obtain ⟨t1,h1,_⟩:=hq; cases h1
   | inr t'=>
    have:t'=t:=by simpa using H
    subst this
    cases y with
    | normal=>obtain ⟨s1,h1,_⟩:=hq; cases h1
    | _=>obtain ⟨t1,h1,h2⟩:=hq; cases h1; exact ⟨ht,e',rfl,hQ _ _ _ h2⟩
def ar:List Value→Nat→Value
 | [],_=>undef
 | v :: _,0=>v
 | _ :: l,t+1=>ar l t
def mW (P:Program) (fn:Func) (n:Fr) (R:Ending→World→Prop):Exit→(Nat→Value)→World→Prop
 | .normal,e,w=>∃v,(results fn (act n e).tmps).run P w= .ok v w∧R (.returned v) w
 | .ret,e,w=>∃v,(results fn (act n e).tmps).run P w= .ok v w∧R (.returned v) w
 | _,_,_=>False
theorem Gp (n:Nat) (l:List Value) (h:l.length≤n):act ⟨n,[],none⟩ (ar l)= { tmps:=l.toArray++Array.replicate (n - l.length) undef,defers:=[]}:=by
 unfold act
 congr 1
 apply HP;apply H0
 ·simp; omega
 ·intro i h1 h2;simp only [eK,xI,Array.toList_append,Array.toList_replicate];have key:∀(l:List Value) (i:Nat) (h:i < l.length),ar l i=l[i]:=by
   intro l
   induction l with
   | nil=>intro i h; simp at h
   | cons v l ih=>
    intro i h
    cases i with
    | zero=>rfl
    | succ i=>exact ih i (by simpa using h)
  have key2:∀(l:List Value) (i:Nat) (h:l.length≤i),ar l i=undef:=by
   intro l
   induction l with
   | nil=>intro i h; rfl
   | cons v l ih=>
    intro i h
    cases i with
    | zero=>simp at h
    | succ i=>exact ih i (by simpa using h)
  by_cases hi:i < l.length
  ·rw [rj hi]; exact key l i hi
  ·rw [qz (by omega)]; rw [key2 l i (by omega)]; simp
theorem enter {f:FuncId} {fn:Func} {code:Code} {n:Nat} {l:List Value} {w:World} {R:Ending→World→Prop} (hf:P.funcs[f]? = some fn) (hb:fn.body=some code) (hn:fn.ntmps=n)
  (hl:Nat.ble l.length n=true) (h:W P ⟨n,[],none⟩ code (mW P fn ⟨n,[],none⟩ R) (ar l) w):Calls P f l.toArray w R:=by
 subst hn;have hl:=bH hl;refine (callsIn_wide (n:=0)).1 (callsIn_of_wp hf hb trivial ?_);rw [zq,←Gp _ l hl];refine zt h ?_;rintro x a w' ⟨_,e',rfl,hq⟩
 cases x <;> first | exact ⟨rfl,hq⟩ | exact hq.elim
theorem gw (n:Fr) (e:Nat→Value) (t:Nat):(act n e).tmps.getD t undef=ev n e (.tmp t):=by
 rw [←mX]; rfl
theorem Hx {fn:Func} {R:Ending→World→Prop} (hr:fn.results= #[]) (h:R (.returned (.tuple #[])) w):mW P fn n R .ret e w:=
 ⟨_,results_none hr _ _ _,h⟩
theorem GY {fn:Func} {R:Ending→World→Prop} (hr:fn.results= #[]) (h:R (.returned (.tuple #[])) w):mW P fn n R .normal e w:=
 ⟨_,results_none hr _ _ _,h⟩
theorem Be {fn:Func} {R:Ending→World→Prop} {t:Nat} {v:Value} (hr:fn.results= #[.tmp t]) (hv:ev n e (.tmp t)=v) (h:R (.returned v) w):mW P fn n R .ret e w:=
 ⟨_,results_tmp hr _ _ _,by rw [gw,hv]; exact h⟩
theorem FB {fn:Func} {R:Ending→World→Prop} {t u:Nat} {v v':Value} (hr:fn.results= #[.tmp t,.tmp u]) (hv:ev n e (.tmp t)=v) (hu:ev n e (.tmp u)=v') (h:R (.returned (.tuple #[v,v'])) w):mW P fn n R .ret e w:=
 ⟨_,results_tmp2 hr _ _ _,by rw [gw,gw,hv,hu]; exact h⟩
def ups (e:Nat→Value):List (Nat×Value)→(Nat→Value)
 | []=>e
 | (t,v) :: l=>up (ups e l) t v
def holds (e:Nat→Value):List (Nat×Value)→Prop
 | []=>True
 | (t,v) :: l=>e t=v∧holds e l
theorem DP (e:Nat→Value) {t:Nat} {v:Value} (h:e t=v):up e t v=e:=by
 funext i
 unfold up;by_cases hb:Nat.beq i t=true
 ·rw [hb,uf hb]; exact h.symm
 ·simp [hb]
theorem cm:∀{l:List (Nat×Value)} {e:Nat→Value},holds e l→e=ups e l
 | [],_,_=>rfl
 | (t,v) :: l,e,h=>by
  have:=cm (l:=l) h.2;rw [ups,←this];exact (DP e h.1).symm
end
def w64 (n:Int):Int:=IntKind.i64.wrap n
def w32 (n:Int):Int:=IntKind.i32.wrap n
def aW (x y:Int):Int:=if y > x then y else x
def aO (x y:Int):Int:=if y < x then y else x
theorem bs {α β:Type} {x:Option α} {f:α→Option β} {r:β} (h:x.bind f=some r):∃a,x=some a∧f a=some r:=by
 cases x with
 | none=>cases h
 | some a=>exact ⟨a,rfl,h⟩
theorem it {α:Type} {b:Bool} {x y:Option α} {r:α} (hb:b=true) (h:(if b=true then x else y)=some r):x=some r:=by rw [af hb] at h; exact h
theorem ie {α:Type} {b:Bool} {x y:Option α} {r:α} (hb:b=false) (h:(if b=true then x else y)=some r):y=some r:=by rw [ag (by simp [hb])] at h; exact h
def orE (t:Bool) (x:Option Bool):Option Bool:=if t=true then some true else x
def bL (t:Bool) (x:Option Bool):Option Bool:=if t=true then x else some false
theorem orT {t:Bool} {x:Option Bool} {d:Bool} (ht:t=true) (h:orE t x=some d):d=true:=by simp [orE,ht] at h; exact h
theorem orF {t:Bool} {x:Option Bool} {d:Bool} (ht:t=false) (h:orE t x=some d):x=some d:=by simpa [orE,ht] using h
theorem anT {t:Bool} {x:Option Bool} {d:Bool} (ht:t=true) (h:bL t x=some d):x=some d:=by simpa [bL,ht] using h
theorem anF {t:Bool} {x:Option Bool} {d:Bool} (ht:t=false) (h:bL t x=some d):d=false:=by simp [bL,ht] at h; exact h
end Go.Lt
namespace Go.Lt
structure Cx where
 w:World
 A:Nat→Nat→Prop
 t:Nat→Nat→Option Nat
structure Cx.le (c c':Cx):Prop where
 os:c'.w.os=c.w.os
 output:c'.w.output=c.w.output
 size:c.w.heap.size≤c'.w.heap.size
 cell:∀k o,k < c.w.heap.size→¬c.A k o→c'.w.cell? ⟨k,o,none⟩=c.w.cell? ⟨k,o,none⟩∧¬c'.A k o
 block:∀k,k < c.w.heap.size→(∀o,¬c.A k o)→c'.w.heap[k]? = c.w.heap[k]?
 frz:∀a,a.block < c.w.heap.size→¬c.A a.block a.off→c'.w.frozen? a=c.w.frozen? a
 t:∀g k b,c.t g k=some b→c'.t g k=some b
theorem Cx.le.refl (c:Cx):c.le c:=⟨rfl,rfl,ao _,fun _ _ _ h=>⟨rfl,h⟩,fun _ _ _=>rfl,fun _ _ _=>rfl,fun _ _ _ h=>h⟩
theorem Cx.le.trans {a b c:Cx} (h:a.le b) (k:b.le c):a.le c:=
 ⟨k.os.trans h.os,k.output.trans h.output,dI h.size k.size,fun i o hi hA=>by
  obtain ⟨h1,h2⟩:=h.cell i o hi hA;obtain ⟨k1,k2⟩:=k.cell i o (fF hi h.size) h2;exact ⟨k1.trans h1,k2⟩,fun i hi hA=>(k.block i (fF hi h.size) fun o=>(h.cell i o hi (hA o)).2).trans (h.block i hi hA),
  fun a ha hA=>(k.frz a (fF ha h.size) (h.cell _ _ ha hA).2).trans (h.frz a ha hA),fun g i b hb=>k.t g i b (h.t g i b hb)⟩
structure Cx.lw (c c':Cx):Prop where
 os:c'.w.os=c.w.os
 output:c'.w.output=c.w.output
 size:c.w.heap.size≤c'.w.heap.size
 cell:∀k o,k < c.w.heap.size→¬c.A k o→c'.w.cell? ⟨k,o,none⟩=c.w.cell? ⟨k,o,none⟩∧¬c'.A k o
 block:∀k vs T f,c.w.heap[k]? = some (.cells vs T f)→(∀o,¬c.A k o)→c'.w.heap[k]? = c.w.heap[k]?
 frz:∀a,a.block < c.w.heap.size→¬c.A a.block a.off→c'.w.frozen? a=c.w.frozen? a
 t:∀g k b,c.t g k=some b→c'.t g k=some b
theorem Cx.le.lw {c c':Cx} (h:c.le c'):c.lw c':=⟨h.os,h.output,h.size,h.cell,fun k _ _ _ hk hA=>h.block k (Array.getElem?_eq_some_iff.1 hk).1 hA,h.frz,h.t⟩
instance {c c':Cx}:Coe (c.le c') (c.lw c'):=⟨Cx.le.lw⟩
structure Cx.but (D:Nat→Prop) (c c':Cx):Prop where
 le:c.le c'
 t:c'.t=c.t
 same:∀k,k < c.w.heap.size→¬D k→c'.w.heap[k]? = c.w.heap[k]?∧∀o,c'.A k o↔c.A k o
def Gr (w w':World):Prop:=w.keptBut w' (fun _=>False)∧(∀a,a.block < w.heap.size→w'.frozen? a=w.frozen? a)∧w.heap.size≤w'.heap.size
theorem Gr.frame {w w':World} (h:Gr w w') (may:MemPlace→Prop):w.keptBut w' may:=HH (fun _ f=>f.elim) h.1
theorem Cx.le.grown {w:World} {c':Cx} (h:Cx.le ⟨w,fun _ _=>False,fun _ _=>none⟩ c'):Gr w c'.w:=
 ⟨⟨h.os,h.output,fun i hi=>by
  rw [h.block i hi fun _=>id];have:=World.keptBut_refl w fun _=>False;exact this.2.2 i hi⟩,fun a ha=>h.frz a ha id,h.size⟩
structure Im (c:Cx) (b o:Nat) (v:Value):Prop where
 lt:b < c.w.heap.size
 nA:¬c.A b o
 cell:c.w.cell? ⟨b,o,none⟩=some v
theorem Im.lw {c c':Cx} {b o:Nat} {v:Value} (h:Im c b o v) (k:c.lw c'):Im c' b o v:=by
 obtain ⟨h1,h2⟩:=k.cell b o h.lt h.nA;exact ⟨fF h.lt k.size,h2,h1.trans h.cell⟩
theorem Im.mono {c c':Cx} {b o:Nat} {v:Value} (h:Im c b o v) (k:c.le c'):Im c' b o v:=h.lw k.lw
structure Rp (α:Type) where
 size:Nat
 cells:Cx→List Value→α→Prop
 len:∀{c l x},cells c l x→l.length=size
 one:∀{c l x},cells c l x→∀v∈l,v.oneCell'=true
 mono:∀{c c' l x},c.lw c'→cells c l x→cells c' l x
def RI (k:IntKind):Rp Int where
 size:=1
 cells:=fun _ l n=>l= [.int k n]
 len:=fun h=>by simp [h]
 one:=fun h v hv=>by rw [h] at hv; simp at hv; subst hv; rfl
 mono:=fun _ h=>h
def RS:Rp ByteArray where
 size:=1
 cells:=fun _ l n=>l= [.string n]
 len:=fun h=>by simp [h]
 one:=fun h v hv=>by rw [h] at hv; simp at hv; subst hv; rfl
 mono:=fun _ h=>h
def Sl {α:Type} (R:Rp α) (c:Cx) (v:Value) (xs:List α):Prop:=
 ∃a cap,v= .slice a xs.length cap∧xs.length≤cap∧cap≤maxLen∧
  ∀i x,xs[i]? = some x→∃b off l,a=some ⟨b,off,none⟩∧R.cells c l x∧∀j u,l[j]? = some u→Im c b (off+i * R.size+j) u
theorem Sl.lw {α:Type} {R:Rp α} {c c':Cx} {v:Value} {xs:List α} (h:Sl R c v xs) (k:c.lw c'):Sl R c' v xs:=by
 obtain ⟨a,cap,h1,h2,h3,h4⟩:=h;refine ⟨a,cap,h1,h2,h3,fun i x hx=>?_⟩;obtain ⟨b,off,l,e,hl,hc⟩:=h4 i x hx;exact ⟨b,off,l,e,R.mono k hl,fun j u hu=>(hc j u hu).lw k⟩
theorem Sl.mono {α:Type} {R:Rp α} {c c':Cx} {v:Value} {xs:List α} (h:Sl R c v xs) (k:c.le c'):Sl R c' v xs:=h.lw k.lw
theorem Sl.one {α:Type} {R:Rp α} {c:Cx} {v:Value} {xs:List α} (h:Sl R c v xs):v.oneCell'=true:=by
 obtain ⟨a,cap,rfl,_⟩:=h; rfl
theorem Sl.len_le {α:Type} {R:Rp α} {c:Cx} {v:Value} {xs:List α} (h:Sl R c v xs):xs.length≤9223372036854775807:=by
 obtain ⟨a,cap,_,h1,h2,_⟩:=h;unfold maxLen at h2;omega
theorem Sl.nil {α:Type} (R:Rp α) (c:Cx) (a:Option Addr) (cap:Nat) (h:cap≤maxLen):Sl R c (.slice a 0 cap) []:=
 ⟨a,cap,rfl,db _,h,fun i x hx=>by simp at hx⟩
theorem Sl.nl {α:Type} (R:Rp α) (c:Cx):Sl R c (.slice none 0 0) []:=Sl.nil R c none 0 (db _)
def RL {α:Type} (R:Rp α):Rp (List α) where
 size:=1
 cells:=fun c l xs=>∃v,l= [v]∧Sl R c v xs
 len:=fun ⟨v,h,_⟩=>by simp [h]
 one:=fun ⟨v,h,hs⟩ u hu=>by rw [h] at hu; simp at hu; subst hu; exact hs.one
 mono:=fun k ⟨v,h,hs⟩=>⟨v,h,hs.lw k⟩
def Pt (g:Nat) (c:Cx) (v:Value):Option Nat→Prop
 | none=>v= .pointer none
 | some k=>∃b,v= .pointer (some ⟨b,0,none⟩)∧c.t g k=some b
theorem Pt.lw {g:Nat} {c c':Cx} {v:Value} {p:Option Nat} (h:Pt g c v p) (k:c.lw c'):Pt g c' v p:=by
 cases p with
 | none=>exact h
 | some p=>obtain ⟨b,h1,h2⟩:=h; exact ⟨b,h1,k.t _ _ _ h2⟩
theorem Pt.mono {g:Nat} {c c':Cx} {v:Value} {p:Option Nat} (h:Pt g c v p) (k:c.le c'):Pt g c' v p:=h.lw k.lw
theorem Pt.one {g:Nat} {c:Cx} {v:Value} {p:Option Nat} (h:Pt g c v p):v.oneCell'=true:=by
 cases p with
 | none=>obtain rfl:=h; rfl
 | some p=>obtain ⟨b,rfl,_⟩:=h; rfl
def RP (g:Nat):Rp (Option Nat) where
 size:=1
 cells:=fun c l p=>∃v,l= [v]∧Pt g c v p
 len:=fun ⟨v,h,_⟩=>by simp [h]
 one:=fun ⟨v,h,hs⟩ u hu=>by rw [h] at hu; simp at hu; subst hu; exact hs.one
 mono:=fun k ⟨v,h,hs⟩=>⟨v,h,hs.lw k⟩
theorem Pt.get {g:Nat} {c:Cx} {v:Value} {p:Option Nat} {k:Nat} (h:Pt g c v p) (hp:p=some k):∃b,v= .pointer (some ⟨b,0,none⟩)∧c.t g k=some b:=by subst hp; exact h
theorem Pt.get2 {g:Nat} {c:Cx} {b k:Nat} {p:Option Nat} (h:Pt g c (.pointer (some ⟨b,0,none⟩)) p) (hp:p=some k):c.t g k=some b:=by
 subst hp;obtain ⟨b',h1,h2⟩:=h;cases h1;exact h2
inductive Er where
 | nil
 | sent (g:Nat)
 | fault (i:Int) (e:Er)
structure Fz (c:Cx) (b:Nat):Prop where
 lt:b < c.w.heap.size
 nA:∀o,¬c.A b o
 blk:∃vs T,c.w.heap[b]? = some (.cells vs T (0,0))
theorem Fz.lw {c c':Cx} {b:Nat} (h:Fz c b) (k:c.lw c'):Fz c' b:=by
 obtain ⟨vs,T,hb⟩:=h.blk;exact ⟨fF h.lt k.size,fun o=>(k.cell b o h.lt (h.nA o)).2,vs,T,(k.block b _ _ _ hb h.nA).trans hb⟩
theorem Fz.mono {c c':Cx} {b:Nat} (h:Fz c b) (k:c.le c'):Fz c' b:=h.lw k.lw
def RE (S T:TypeId) (c:Cx):Value→Er→Prop
 | v,.nil=>v= .nilIface
 | v,.sent g=>∃a,v= .iface S (.pointer (some a))∧Im c g 0 v∧Fz c a.block
 | v,.fault i e=>∃b u,v= .iface T (.pointer (some ⟨b,0,none⟩))∧Im c b 0 (.int .i64 i)∧Im c b 1 u∧RE S T c u e
theorem RE.lw {S T:TypeId} {c c':Cx} {v:Value} {e:Er} (h:RE S T c v e) (k:c.lw c'):RE S T c' v e:=by
 induction e generalizing v with
 | nil=>exact h
 | sent g=>obtain ⟨b,h,hi,hf⟩:=h; exact ⟨b,h,hi.lw k,hf.lw k⟩
 | fault i e ih=>obtain ⟨b,u,h,h1,h2,h3⟩:=h; exact ⟨b,u,h,h1.lw k,h2.lw k,ih h3⟩
theorem RE.mono {S T:TypeId} {c c':Cx} {v:Value} {e:Er} (h:RE S T c v e) (k:c.le c'):RE S T c' v e:=h.lw k.lw
theorem RE.one {S T:TypeId} {c:Cx} {v:Value} {e:Er} (h:RE S T c v e):v.oneCell'=true:=by
 cases e with
 | nil=>obtain rfl:=h; rfl
 | sent g=>obtain ⟨b,rfl,_⟩:=h; rfl
 | fault i e=>obtain ⟨b,u,rfl,_⟩:=h; rfl
theorem RE.im {S T:TypeId} {c:Cx} {v:Value} {g:Nat} (h:RE S T c v (.sent g)):Im c g 0 v:=by
 obtain ⟨b,_,h,_⟩:=h; exact h
def Er.isNil:Er→Bool
 | .nil=>true
 | _=>false
def sb:Value→Nat
 | .slice (some a) _ _=>a.block
 | _=>0
def so:Value→Nat
 | .slice (some a) _ _=>a.off
 | _=>0
theorem Sl.at {α:Type} {R:Rp α} {c:Cx} {v:Value} {xs:List α} (h:Sl R c v xs) {i:Nat} {x:α} (hx:xs[i]? = some x):
  ∃l,R.cells c l x∧∀j u,l[j]? = some u→Im c (sb v) (so v+i * R.size+j) u:=by
 obtain ⟨a,cap,rfl,_,_,h4⟩:=h;obtain ⟨b,off,l,rfl,hl,hc⟩:=h4 i x hx;exact ⟨l,hl,hc⟩
def idx {α:Type} (xs:List α) (i:Int):Option α:=if 0≤i then xs[i.toNat]? else none
def slc {α:Type} (xs:List α) (i j:Int):Option (List α):=if 0≤i∧i≤j∧j≤xs.length then some ((xs.drop i.toNat).take (j - i).toNat) else none
def far:Nat:=1099511627776
def app {α:Type} (xs ys:List α):Option (List α):=if xs.length+ys.length≤far then some (xs++ys) else none
def rep {α:Type} (n:Int) (x:α):Option (List α):=if 0≤n∧n≤far then some (List.replicate n.toNat x) else none
def jp {α:Type} (xs:List α) (i:Int) (x:α):Option (List α):=if 0≤i∧i < xs.length then some (xs.set i.toNat x) else none
theorem bi {α:Type} {xs:List α} {i:Int} {x:α} (h:idx xs i=some x):xs[i.toNat]? = some x:=by
 unfold idx at h;split at h
 ·exact h
 ·cases h
theorem sO {α:Type} {xs:List α} {i:Int} {x:α} (h:idx xs i=some x):0≤i∧i < xs.length:=by
 have:=bi h;unfold idx at h;split at h
 ·have:=(List.getElem?_eq_some_iff.1 this).1;omega
 ·cases h
structure En where
 v:Value
 T:TypeId
 vs:List Value
 lim:Nat
def blk:Value→Option Nat
 | .pointer (some a)=>some a.block
 | .slice (some a) _ _=>some a.block
 | _=>none
def En.on (e:En) (c:Cx):Prop:=∀b,blk e.v=some b→c.w.heap[b]? = some (.cells e.vs.toArray e.T (0,0))∧∀o,c.A b o↔e.lim≤o
def apart (e e':En):Prop:=∀b,blk e.v=some b→blk e'.v=some b→False
def tV:En:=⟨.nilIface,0,[],0⟩
abbrev Gm:=Nat→Nat→List En
def at_ (G:Gm) (F:List En):Nat ⊕ (Nat×Nat×Nat)→Option En
 | .inl k=>F[k]?
 | .inr (g,k,r)=>(G g k)[r]?
def oK {ι:Type} (c:Cx) (M:ι→Option En):Prop:=(∀i e,M i=some e→e.on c)∧∀i j e e',M i=some e→M j=some e'→i≠j→apart e e'
theorem En.on.lt {e:En} {c:Cx} {b:Nat} (h:e.on c) (hb:blk e.v=some b):b < c.w.heap.size:=(Array.getElem?_eq_some_iff.1 (h b hb).1).1
theorem En.on.keep {e:En} {c c':Cx} (h:e.on c) (k:∀b,blk e.v=some b→c'.w.heap[b]? = c.w.heap[b]?∧∀o,c'.A b o↔c.A b o):e.on c':=fun b hb=>
 ⟨(k b hb).1.trans (h b hb).1,fun o=>((k b hb).2 o).trans ((h b hb).2 o)⟩
theorem AF (c:Cx):tV.on c:=fun b hb=>by cases hb
theorem uX (e:En):apart tV e:=fun b hb=>by cases hb
theorem vC (e:En):apart e tV:=fun b _ hb=>by cases hb
theorem oK.upd {ι:Type} {c c':Cx} {M M':ι→Option En} (h:oK c M) (i:ι) {D:Nat→Prop} (hb:c.but D c') (hD:∀b,D b→∃e,M i=some e∧blk e.v=some b) (hM:∀j,j≠i→M' j=M j)
  {e':En} (hi:M' i=some e') (hon:e'.on c') (hnew:∀b,blk e'.v=some b→(∃e,M i=some e∧blk e.v=some b)∨c.w.heap.size≤b):oK c' M':=by
 have key:∀j e,j≠i→M' j=some e→e.on c':=fun j e hj he=>by
  rw [hM j hj] at he;refine (h.1 j e he).keep fun b hbe=>hb.same b ((h.1 j e he).lt hbe) fun hd=>?_;obtain ⟨e2,h2,h3⟩:=hD b hd;exact h.2 j i e e2 he h2 hj b hbe h3
 have far:∀j e,j≠i→M' j=some e→apart e e':=fun j e hj he b h1 h2=>by
  rw [hM j hj] at he;rcases hnew b h2 with ⟨e2,h3,h4⟩ | h3
  ·exact h.2 j i e e2 he h3 hj b h1 h4
  ·exact absurd ((h.1 j e he).lt h1) (Nat.not_lt.2 h3)
 classical
 refine ⟨fun j e he=>?_,fun j k e e2 he he2 hjk=>?_⟩
 ·by_cases hj:j=i
  ·subst hj; rw [hi] at he; cases he; exact hon
  ·exact key j e hj he
 ·by_cases hj:j=i
  ·subst hj;rw [hi] at he; cases he;exact fun b h1 h2=>far k e2 (tv hjk) he2 b h2 h1
  ·by_cases hk:k=i
   ·subst hk; rw [hi] at he2; cases he2; exact far j e hj he
   ·rw [hM j hj] at he; rw [hM k hk] at he2; exact h.2 j k e e2 he he2 hjk
theorem oK.re {ι κ:Type} {c:Cx} {M:ι→Option En} {M':κ→Option En} (h:oK c M) (f:κ→ι) (hf:∀k e,M' k=some e→M (f k)=some e) (inj:∀k k' e e',M' k=some e→M' k'=some e'→f k=f k'→k=k'):oK c M':=
 ⟨fun k e he=>h.1 _ e (hf k e he),fun k k' e e' he he' hne=>h.2 _ _ e e' (hf k e he) (hf k' e' he') fun hh=>hne (inj k k' e e' he he' hh)⟩
structure Own (c:Cx) (G:Gm) (F:List En):Prop where
 m:oK c (at_ G F)
 t0:∀g k,G g k= []→c.t g k=none
section
variable {c c':Cx} {G:Gm} {F:List En}
theorem Own.on (O:Own c G F) (k:Nat) {e:En} (h:F[k]? = some e):e.on c:=O.m.1 (.inl k) e h
theorem Own.gon (O:Own c G F) {g k:Nat} {E:List En} (hE:G g k=E) (r:Nat) {e:En} (h:E[r]? = some e):e.on c:=O.m.1 (.inr (g,k,r)) e (by subst hE; exact h)
theorem Own.keep (O:Own c G F) (h:c.but (fun _=>False) c'):Own c' G F:=
 ⟨⟨fun i e he=>(O.m.1 i e he).keep fun b hb=>h.same b ((O.m.1 i e he).lt hb) id,O.m.2⟩,fun g k hk=>by rw [h.t]; exact O.t0 g k hk⟩
theorem Own.set (O:Own c G F) (k:Nat) {e e':En} {D:Nat→Prop} (hk:F[k]? = some e) (hb:c.but D c') (hD:∀b,D b→blk e.v=some b) (hon:e'.on c') (hnew:∀b,blk e'.v=some b→blk e.v=some b∨c.w.heap.size≤b):Own c' G (F.set k e'):=
 ⟨oK.upd O.m (.inl k) hb (fun b h=>⟨e,hk,hD b h⟩) (fun j hj=>by
  cases j with
  | inl j=>exact aU (fun e=>hj (by rw [e]))
  | inr j=>rfl) (e':=e') (bf (List.getElem?_eq_some_iff.1 hk).1) hon (fun b h=>(hnew b h).imp (fun h=>⟨e,hk,h⟩) id),fun g k hk=>by rw [hb.t]; exact O.t0 g k hk⟩
theorem Own.sel {F0:List En} {L:List En} (ix:List Nat) (O:Own c G (L++F0)) (hn:ix.Nodup) {L':List En} (hL:ix.map (fun i=>L[i]?)=L'.map some):Own c G (L'++F0):=by
 have hlen:ix.length=L'.length:=by have:=kW List.length hL; simpa using this
 have hget:∀(i:Nat) (hi:i < ix.length),L[ix[i]]? = some (L'[i]'(hlen▸ hi)):=fun i hi=>by
  have:=kW (fun l=>l[i]?) hL;simpa [ab hi,ab (hlen▸ hi:i < L'.length)] using this
 refine ⟨oK.re O.m (fun j=>match j with
  | .inl j=>if h:j < ix.length then .inl ix[j] else .inl (j - ix.length+L.length)
  | .inr j=> .inr j) ?_ ?_,O.t0⟩
 ·intro j e he
  cases j with
  | inr j=>exact he
  | inl j=>
   by_cases hj:j < ix.length
   ·simp only [hj,sR];have h2:=hget j hj;have hlt:=(List.getElem?_eq_some_iff.1 h2).1;simp only [at_] at he⊢;rw [aB (hlen▸ hj),ab (hlen▸ hj)] at he;rw [aB hlt,h2,he]
   ·simp only [hj,vG,qD];simp only [at_] at he⊢;rw [aG (by omega)] at he;rw [aG (by omega),←he]
    congr 1
    omega
 ·intro j j' e e' he he' hh
  cases j with
  | inr j=>
   cases j' with
   | inr j'=>exact hh
   | inl j'=>by_cases hj:j' < ix.length <;> simp [hj] at hh
  | inl j=>
   cases j' with
   | inr j'=>by_cases hj:j < ix.length <;> simp [hj] at hh
   | inl j'=>
    by_cases hj:j < ix.length
    ·have h1:=(List.getElem?_eq_some_iff.1 (hget j hj)).1;by_cases hj':j' < ix.length
     ·simp only [hj,hj',sR,rf] at hh;rw [(List.getElem_inj hn).1 hh]
     ·simp only [hj,hj',sR,vG,qD,rf] at hh;omega
    ·by_cases hj':j' < ix.length
     ·have h1:=(List.getElem?_eq_some_iff.1 (hget j' hj')).1;simp only [hj,hj',sR,vG,qD,rf] at hh;omega
     ·simp only [hj,hj',vG,qD,rf] at hh
      congr 1
      omega
theorem Own.cons (O:Own c G F) {e:En} {D:Nat→Prop} (hb:c.but D c') (hD:∀b,¬D b) (hon:e.on c') (hnew:∀b,blk e.v=some b→c.w.heap.size≤b):Own c' G (e :: F):=by
 have O1:oK c (at_ G (tV :: F)):=by
  refine ⟨fun i e he=>?_,fun i j e e' he he' hij=>?_⟩
  ·cases i with
   | inr i=>exact O.m.1 (.inr i) e he
   | inl i=>cases i with
    | zero=>cases he; exact AF c
    | succ i=>exact O.m.1 (.inl i) e he
  ·have pull:∀i,i≠ .inl 0→∀e,at_ G (tV :: F) i=some e→∃i',at_ G F i'=some e∧(match i' with | .inl k=>i= .inl (k+1) | .inr k=>i= .inr k):=fun i hi e he=>by
    cases i with
    | inr i=>exact ⟨.inr i,he,rfl⟩
    | inl i=>cases i with
     | zero=>exact absurd rfl hi
     | succ i=>exact ⟨.inl i,he,rfl⟩
   by_cases hi:i= .inl 0
   ·subst hi; cases he; exact uX _
   ·by_cases hj:j= .inl 0
    ·subst hj; cases he'; exact vC _
    ·obtain ⟨i',h1,h2⟩:=pull i hi e he;obtain ⟨j',h3,h4⟩:=pull j hj e' he';refine O.m.2 i' j' e e' h1 h3 fun hh=>hij ?_;subst hh
     cases i' <;> simp_all
 exact ⟨oK.upd O1 (.inl 0) hb (fun b h=>absurd h (hD b)) (fun j hj=>by
  cases j with
  | inr j=>rfl
  | inl j=>cases j with
   | zero=>exact absurd rfl hj
   | succ j=>rfl) (e':=e) rfl hon (fun b h=> .inr (hnew b h)),fun g k hk=>by rw [hb.t]; exact O.t0 g k hk⟩
theorem Own.addHole (O:Own c G F) {e:En} (he:blk e.v=none):Own c G (e :: F):=
 O.cons (D:=fun _=>False) ⟨Cx.le.refl c,rfl,fun _ _ _=>⟨rfl,fun _=>tA⟩⟩ (fun _=>id) (fun b hb=>by rw [he] at hb; cases hb) (fun b hb=>by rw [he] at hb; cases hb)
theorem Own.tail {e:En} (O:Own c G (e :: F)):Own c G F:=
 ⟨oK.re O.m (fun j=>match j with | .inl j=> .inl (j+1) | .inr j=> .inr j) (fun j e he=>by cases j <;> exact he) (fun j j' _ _ _ _ h=>by
  cases j <;> cases j' <;> simp_all),O.t0⟩
def fm (G:Gm) (g k:Nat) (E:List En):Gm:=fun g' k'=>if g'=g∧k'=k then E else G g' k'
theorem bC (G:Gm) (g k:Nat) (E:List En):fm G g k E g k=E:=by simp [fm]
theorem uy {c:Cx} {G:Gm} {g k:Nat} {E:List En} (h:∀g k,G g k= []→c.t g k=none) (hE:E= []→G g k= []):∀g' k',fm G g k E g' k'= []→c.t g' k'=none:=fun g' k' h'=>by
 simp only [fm] at h';split at h'
 ·rename_i hh
  obtain ⟨rfl,rfl⟩:=hh;exact h _ _ (hE h')
 ·exact h _ _ h'
theorem wQ {α:Type} {E:List α} {r:Nat} {e:α} (h:E.set r e= []):E= []:=by
 have:=kW List.length h;rw [cf] at this;exact bW this
theorem dE {G:Gm} {g k g' k':Nat} {E:List En} (h:¬(g'=g∧k'=k)):fm G g k E g' k'=G g' k':=by simp only [fm,ag h]
theorem Own.setR (O:Own c G F) {g k:Nat} {E:List En} (r:Nat) {e e':En} {D:Nat→Prop} (hE:G g k=E) (hr:E[r]? = some e) (hb:c.but D c') (hD:∀b,D b→blk e.v=some b) (hon:e'.on c') (hnew:∀b,blk e'.v=some b→blk e.v=some b∨c.w.heap.size≤b):
  Own c' (fm G g k (E.set r e')) F:=by
 subst hE;refine ⟨oK.upd O.m (.inr (g,k,r)) hb (fun b h=>⟨e,hr,hD b h⟩) (fun j hj=>?_) (e':=e') ?_ hon (fun b h=>(hnew b h).imp (fun h=>⟨e,hr,h⟩) id),uy (fun g k hk=>by rw [hb.t]; exact O.t0 g k hk) wQ⟩
 ·cases j with
  | inl j=>rfl
  | inr j=>
   obtain ⟨g',k',r'⟩:=j;by_cases h:g'=g∧k'=k
   ·obtain ⟨rfl,rfl⟩:=h;simp only [at_,bC];exact aU (fun e=>hj (by rw [e]))
   ·simp only [at_,dE h]
 ·simp only [at_,bC];exact bf (List.getElem?_eq_some_iff.1 hr).1
theorem Own.borrow (O:Own c G F) {g k:Nat} {E:List En} (r:Nat) {e:En} (hE:G g k=E) (hr:E[r]? = some e):Own c (fm G g k (E.set r tV)) (e :: F):=by
 subst hE;have hlt:=(List.getElem?_eq_some_iff.1 hr).1;have main:∀g' k' r' e1,at_ (fm G g k ((G g k).set r tV)) (e :: F) (.inr (g',k',r'))=some e1→(g',k',r')≠(g,k,r)→at_ G F (.inr (g',k',r'))=some e1:=fun g' k' r' e1 h1 hne=>by
  simp only [at_] at h1⊢;by_cases h:g'=g∧k'=k
  ·obtain ⟨rfl,rfl⟩:=h;rw [bC,aU (fun e=>hne (by rw [e]))] at h1;exact h1
  ·rwa [dE h] at h1
 have hh:∀e1,at_ (fm G g k ((G g k).set r tV)) (e :: F) (.inr (g,k,r))=some e1→e1=tV:=fun e1 h1=>by
  simp only [at_,bC] at h1;rw [bf hlt] at h1
  cases h1; rfl
 classical
 let f:Nat ⊕ (Nat×Nat×Nat)→Nat ⊕ (Nat×Nat×Nat):=fun j=>match j with
  | .inl 0=> .inr (g,k,r)
  | .inl (j+1)=> .inl j
  | .inr j=> .inr j
 have hf:∀j e1,j≠ .inr (g,k,r)→at_ (fm G g k ((G g k).set r tV)) (e :: F) j=some e1→at_ G F (f j)=some e1:=fun j e1 hj he=>by
  cases j with
  | inl j=>cases j with
   | zero=>cases he; exact hr
   | succ j=>exact he
  | inr j=>exact main j.1 j.2.1 j.2.2 e1 he (fun e=>hj (by rw [←e]))
 refine ⟨⟨fun j e1 he=>?_,fun j j' e1 e2 he he2 hne=>?_⟩,uy O.t0 wQ⟩
 ·by_cases hj:j= .inr (g,k,r)
  ·subst hj; rw [hh e1 he]; exact AF c
  ·exact O.m.1 (f j) e1 (hf j e1 hj he)
 ·by_cases hj:j= .inr (g,k,r)
  ·subst hj; rw [hh e1 he]; exact uX _
  ·by_cases hj':j'= .inr (g,k,r)
   ·subst hj'; rw [hh e2 he2]; exact vC _
   ·refine O.m.2 (f j) (f j') e1 e2 (hf j e1 hj he) (hf j' e2 hj' he2) fun hff=>?_
    cases j with
    | inl j=>cases j with
     | zero=>cases j' with
      | inl j'=>cases j' with
       | zero=>exact hne rfl
       | succ j'=>simp [f] at hff
      | inr j'=>exact hj' (by simpa [f] using hff.symm)
     | succ j=>cases j' with
      | inl j'=>cases j' with
       | zero=>simp [f] at hff
       | succ j'=>exact hne (by simpa [f] using hff)
      | inr j'=>simp [f] at hff
    | inr j=>cases j' with
     | inl j'=>cases j' with
      | zero=>exact hj (by simpa [f] using hff)
      | succ j'=>simp [f] at hff
     | inr j'=>exact hne (by simpa [f] using hff)
theorem Own.give {e:En} (O:Own c G (e :: F)) {g k:Nat} {E:List En} (r:Nat) {e0:En} (hE:G g k=E) (hr:E[r]? = some e0):Own c (fm G g k (E.set r e)) F:=by
 subst hE;have hlt:=(List.getElem?_eq_some_iff.1 hr).1
 classical
 let f:Nat ⊕ (Nat×Nat×Nat)→Nat ⊕ (Nat×Nat×Nat):=fun j=>match j with
  | .inl j=> .inl (j+1)
  | .inr j=>if j=(g,k,r) then .inl 0 else .inr j
 refine ⟨oK.re O.m f (fun j e1 he=>?_) (fun j j' e1 e2 he he2 hff=>?_),uy O.t0 wQ⟩
 ·cases j with
  | inl j=>exact he
  | inr j=>
   obtain ⟨g',k',r'⟩:=j;by_cases h0:(g',k',r')=(g,k,r)
   ·simp only [jl] at h0;obtain ⟨rfl,rfl,rfl⟩:=h0;simp only [at_,bC] at he;rw [bf hlt] at he;simp only [f,af];exact he
   ·simp only [f,ag h0];simp only [at_] at he⊢;by_cases h:g'=g∧k'=k
    ·obtain ⟨rfl,rfl⟩:=h;rw [bC,aU (fun e=>h0 (by rw [e]))] at he;exact he
    ·rwa [dE h] at he
 ·cases j with
  | inl j=>cases j' with
   | inl j'=>simpa [f] using hff
   | inr j'=>by_cases h:j'=(g,k,r) <;> simp [f,h] at hff
  | inr j=>cases j' with
   | inl j'=>by_cases h:j=(g,k,r) <;> simp [f,h] at hff
   | inr j'=>
    by_cases h:j=(g,k,r)
    ·by_cases h':j'=(g,k,r)
     ·rw [h,h']
     ·simp [f,h,h'] at hff
    ·by_cases h':j'=(g,k,r)
     ·simp [f,h,h'] at hff
     ·simpa [f,h,h'] using hff
theorem sF (G:Gm) (g k:Nat) (E E':List En):fm (fm G g k E) g k E'=fm G g k E':=by
 funext g' k'
 simp only [fm];split <;> rfl
theorem Own.giveB {e:En} {g k:Nat} {E:List En} (r:Nat) {e0:En} (O:Own c (fm G g k E) (e :: F)) (hr:E[r]? = some e0):Own c (fm G g k (E.set r e)) F:=by
 have:=Own.give O r (bC G g k E) hr
 rwa [sF] at this
theorem oK.newObj {E:List En} (O:oK c (at_ G (E++F))) {g k:Nat} (hE:G g k= []):oK c (at_ (fm G g k E) F):=by
 classical
 let f:Nat ⊕ (Nat×Nat×Nat)→Nat ⊕ (Nat×Nat×Nat):=fun j=>match j with
  | .inl j=> .inl (j+E.length)
  | .inr j=>if j.1=g∧j.2.1=k then .inl j.2.2 else .inr j
 have hr:∀r e,at_ (fm G g k E) F (.inr (g,k,r))=some e→r < E.length:=fun r e he=>by
  simp only [at_,bC] at he;exact (List.getElem?_eq_some_iff.1 he).1
 refine oK.re O f (fun j e1 he=>?_) (fun j j' e1 e2 he he2 hff=>?_)
 ·cases j with
  | inl j=>
   simp only [f,at_] at he⊢;rw [aG (by omega)];rw [←he]; congr 1; omega
  | inr j=>
   obtain ⟨g',k',r'⟩:=j;by_cases h:g'=g∧k'=k
   ·simp only [f,af h];obtain ⟨rfl,rfl⟩:=h;have:=hr _ _ he;simp only [at_,bC] at he⊢;rw [aB this]; exact he
   ·simp only [f,ag h];simp only [at_,dE h] at he⊢;exact he
 ·cases j with
  | inl j=>cases j' with
   | inl j'=>simpa [f] using hff
   | inr j'=>
    obtain ⟨g',k',r'⟩:=j';by_cases h:g'=g∧k'=k
    ·obtain ⟨rfl,rfl⟩:=h;have:=hr _ _ he2;simp [f] at hff;omega
    ·simp [f,h] at hff
  | inr j=>
   obtain ⟨g1,k1,r1⟩:=j
   cases j' with
   | inl j'=>
    by_cases h:g1=g∧k1=k
    ·obtain ⟨rfl,rfl⟩:=h;have:=hr _ _ he;simp [f] at hff;omega
    ·simp [f,h] at hff
   | inr j'=>
    obtain ⟨g',k',r'⟩:=j';by_cases h:g1=g∧k1=k
    ·by_cases h':g'=g∧k'=k
     ·simp only [f,af h,af h',rf] at hff;obtain ⟨rfl,rfl⟩:=h;obtain ⟨rfl,rfl⟩:=h';rw [hff]
     ·simp [f,h,h'] at hff
    ·by_cases h':g'=g∧k'=k
     ·simp [f,h,h'] at hff
     ·simpa [f,h,h'] using hff
theorem Own.newObj {E:List En} (O:Own c G (E++F)) {g k b:Nat} (hE:G g k= []) (hne:E≠ []):∃c',(c'.w=c.w∧c'.A=c.A)∧c.le c'∧c'.t g k=some b∧Own c' (fm G g k E) F:=by
 have ht:∀g' k' b',c.t g' k'=some b'→¬(g'=g∧k'=k):=fun g' k' b' h hh=>by
  obtain ⟨rfl,rfl⟩:=hh;rw [O.t0 _ _ hE] at h;cases h
 refine ⟨⟨c.w,c.A,fun g' k'=>if g'=g∧k'=k then some b else c.t g' k'⟩,⟨rfl,rfl⟩,⟨rfl,rfl,ao _,fun _ _ _ h=>⟨rfl,h⟩,fun _ _ _=>rfl,fun _ _ _=>rfl,fun g' k' b' h=>?_⟩,by simp,⟨oK.newObj O.m hE,fun g' k' h=>?_⟩⟩
 ·simp only [ag (ht g' k' b' h)];exact h
 ·simp only [fm] at h⊢;split at h
  ·exact absurd h hne
  ·rename_i hh
   simp only [ag hh];exact O.t0 _ _ h
structure Rl {α:Type} (Y:Cx→Option Nat→List En→α→Prop) (g:Nat) (c:Cx) (G:Gm) (xs:List α):Prop where
 ob:∀k x,xs[k]? = some x→Y c (c.t g k) (G g k) x
 no:∀k,xs.length≤k→G g k= []
variable {α:Type} {Y:Cx→Option Nat→List En→α→Prop} {g:Nat} {xs:List α}
theorem Rl.mono (h:Rl Y g c G xs) (hm:∀b E x,Y c (some b) E x→Y c' (some b) E x) (hs:∀E x,¬Y c none E x) (hk:c.lw c'):Rl Y g c' G xs:=
 ⟨fun k x hx=>by
  have:=h.ob k x hx
  cases hb:c.t g k with
  | none=>rw [hb] at this; exact absurd this (hs _ _)
  | some b=>rw [hb] at this; rw [hk.t g k b hb]; exact hm b _ _ this,h.no⟩
theorem Rl.set (h:Rl Y g c G xs) {k:Nat} {E:List En} {x:α} (hk:k < xs.length) (hY:Y c (c.t g k) E x):Rl Y g c (fm G g k E) (xs.set k x):=
 ⟨fun j y hy=>by
  by_cases hj:j=k
  ·subst hj;rw [bf hk] at hy;cases hy;rw [bC]; exact hY
  ·rw [aU (tv hj)] at hy;rw [dE (fun e=>hj e.2)];exact h.ob j y hy,fun j hj=>by
  rw [cf] at hj;rw [dE (fun e=>by omega)];exact h.no j hj⟩
theorem Rl.other (h:Rl Y g c G xs) {g' k:Nat} {E:List En} (hne:g≠g'):Rl Y g c (fm G g' k E) xs:=
 ⟨fun j y hy=>by rw [dE (fun e=>hne e.1)]; exact h.ob j y hy,fun j hj=>by rw [dE (fun e=>hne e.1)]; exact h.no j hj⟩
theorem Rl.new (h:Rl Y g c G xs) {E:List En} {x:α} (hY:Y c (c.t g xs.length) E x):Rl Y g c (fm G g xs.length E) (xs++ [x]):=
 ⟨fun j y hy=>by
  by_cases hj:j=xs.length
  ·subst hj;rw [aG (ao _)] at hy;simp at hy;subst hy;rw [bC]; exact hY
  ·have hlt:j < xs.length:=by
    have:=(List.getElem?_eq_some_iff.1 hy).1;rw [aj] at this;simp at this;omega
   rw [aB hlt] at hy;rw [dE (fun e=>hj e.2)];exact h.ob j y hy,fun j hj=>by
  rw [aj] at hj;simp at hj;rw [dE (fun e=>by omega)];exact h.no j (by omega)⟩
end
end Go.Lt
namespace Go.Lt
def aQ (c:Cx) (X:Cx→Value→Prop):Ending→World→Prop:=fun x w=>∃v c',x= .returned v∧w=c'.w∧c.le c'∧X c' v
def Kp (G:Gm) (N:List En) (c:Cx):Prop:=∀i e,at_ G N i=some e→e.on c
theorem Kp.nil {c:Cx} {G:Gm} {F:List En} (O:Own c G F):Kp G [] c:=fun i e h=>by
 cases i with
 | inl i=>simp [at_] at h
 | inr i=>exact O.m.1 (.inr i) e h
def G0:Gm:=fun _ _=>[]
theorem Kp.nil0 {c:Cx}:Kp G0 [] c:=fun i e h=>by
 cases i <;> simp [at_,G0] at h
theorem Kp.cons {c:Cx} {G:Gm} {N:List En} {e:En} (h:e.on c) (k:Kp G N c):Kp G (e :: N) c:=fun i e' h'=>by
 cases i with
 | inl i=>cases i with
  | zero=>cases h'; exact h
  | succ i=>exact k (.inl i) e' h'
 | inr i=>exact k (.inr i) e' h'
theorem Kp.on {c:Cx} {G:Gm} {N:List En} (h:Kp G N c) (k:Nat) {e:En} (hk:N[k]? = some e):e.on c:=h (.inl k) e hk
theorem Kp.gon {c:Cx} {G:Gm} {N:List En} (h:Kp G N c) {g k:Nat} {E:List En} (hE:G g k=E) (r:Nat) {e:En} (hr:E[r]? = some e):e.on c:=h (.inr (g,k,r)) e (by subst hE; exact hr)
def GD (ops:Array Oper) (li:List Bool) (i:Nat) (B:List Nat):List Nat:=
 (List.range ops.size).filter fun j=> !li.getD j true && !(j==i) && (ops[j]?).any fun o=>o.after.any fun x=>Region.binds .any x && ((x.on==i && !li.getD i true) || B.contains x.on)
def B2 (ops:Array Oper) (li:List Bool) (i:Nat):Nat→List Nat
 | 0=>[]
 | n+1=>GD ops li i (B2 ops li i n)
def okB (ops:Array Oper) (li:List Bool) (i:Nat) (D:List Nat):Bool:=
 let B:=B2 ops li i ops.size
 B.all (fun j=> !li.getD j true && !(j==i) && (ops[j]?).any fun o=>o.after.any fun x=>Region.binds .any x && (x.on==i || B.contains x.on)) && D.all fun j=>li.getD j true || B.contains j
section
variable {P:Program} {ops:Array Oper} {n:Fr} {r:Option Nat} {Q:Exit→(Nat→Value)→World→Prop} {D:List Nat} {K:Cx→Prop}
def qA (r:Option Nat) (D:List Nat) (K:Cx→Prop) (P:Program) (ops:Array Oper) (Q:Exit→Act→World→Prop):Nat→Array Bool→Act→Cx→Prop
 | 0,listed,a,c=>Region.ready .any ops listed= []∧Q .normal a c.w
 | fuel+1,listed,a,c=>(Region.ready .any ops listed= []→Q .normal a c.w)∧
  ∀i∈Region.ready .any ops listed,wpOpIn (fen r) 0 P ops Q i (fun a' w=>∃c',w=c'.w∧c.le c'∧(i∈D∨(K c→K c'))∧qA r D K P ops Q fuel (listed.setIfInBounds i true) a' c') a c.w
theorem qA.sound {Q:Exit→Act→World→Prop}:∀(fuel:Nat) (listed:Array Bool) (a:Act) (c:Cx),qA r D K P ops Q fuel listed a c→wpAnyIn (fen r) 0 P .any ops Q fuel listed a c.w
 | 0,_,_,_,h=>h
 | _+1,_,_,_,h=>⟨h.1,fun i hi=>wpOpIn_mono (fun a w ⟨c',hw,_,_,h'⟩=>by subst hw; exact qA.sound _ _ _ _ h') (h.2 i hi)⟩
def Yl (Z:Cx→Prop) (P:Program) (ops:Array Oper) (o:Oper) (v:Value) (a:Act) (c:Cx):Prop:=
 (Region.wanted o (yielded ops a.tmps)=true∧∀c',c.le c'→Z c'→(execOp a.eval o).run P c'.w= .ok (.value v) c'.w)∨
 (Region.wanted o (yielded ops a.tmps)=false∧v=undef)
theorem A6 (o:Oper) (hs:∀cs b,o.op≠ .select cs b) (a:Act) (dst:Option Tmp) (v:Value) (h:∀d,dst=some d→d∉o.looksAt ops):
  o.semAt r (a.put dst v).eval=o.semAt r a.eval:=by
 by_cases hd:∀c,o.op≠ .defer c
 ·rw [EX _ _ _ hd,EX _ _ _ hd];exact HF o hs a dst v h
 ·obtain ⟨c,hc⟩:=Classical.not_forall.1 hd;have hc:=Classical.not_not.1 hc;have he:resolve (a.put dst v).eval c o.type=resolve a.eval c o.type:=resolve_congr c o.type fun x hx=>Act.eval_put fun d hd hxd=>h d hd (by
   subst hxd;exact de _ (List.mem_filterMap.2 ⟨.tmp d,by rw [hc]; simpa [Op.operands] using hx,rfl⟩))
  cases r with
  | none=>exact HF o hs a dst v h
  | some l=>
   unfold Oper.semAt;rw [hc];simp only [he]
theorem Yl.wpOp {Z:Cx→Prop} {i:Nat} {o:Oper} {v:Value} {a:Act} {c:Cx} (hz:Z c) (hi:ops[i]? = some o) (hy:Yl Z P ops o v a c) {Q:Exit→Act→World→Prop} {K:Act→World→Prop}
  (h:K (a.put o.dst v) c.w):wpOpIn (fen r) 0 P ops Q i K a c.w:=by
 unfold Go.wpOpIn;simp only [hi];rcases hy with ⟨hw,hv⟩ | ⟨hw,rfl⟩
 ·rw [af hw];refine ⟨fun _ _=>trivial,?_⟩;rw [ru (hv c (Cx.le.refl c) hz) (by simp),HS];exact h
 ·rw [ag (by rw [hw]; simp)];exact ⟨fun _ _=>trivial,h⟩
def Wt (ops:Array Oper) (listed:Array Bool) (i:Nat) (B:List Nat):Prop:=
 ∀j∈B,listed.getD j true=false∧j≠i∧∃oj,ops[j]? = some oj∧∃x∈oj.after,Region.binds .any x=true∧(x.on=i∨x.on∈B)
theorem wA (l:List Bool) (j:Nat):l.toArray.getD j true=l.getD j true:=by simp [ck,av]
theorem CE {l:List Oper} {li:List Bool} {i:Nat} {D:List Nat} (h:okB l.toArray li i D=true):∃B,Wt l.toArray li.toArray i B∧∀j∈D,li.toArray.getD j true=true∨j∈B:=by
 refine ⟨B2 l.toArray li i l.toArray.size,fun j hj=>?_,fun j hj=>?_⟩
 ·simp only [okB,aw,sv] at h;have:=h.1 j hj;simp only [em,ej,CI] at this;obtain ⟨⟨h1,h2⟩,h3⟩:=this;refine ⟨by rw [wA]; exact h1,h2,?_⟩
  cases ho:l.toArray[j]? with
  | none=>rw [ho] at h3; cases h3
  | some oj=>
   rw [ho] at h3;simp only [Option.any_some,Array.any_eq_true',aw,aF,aX,GB] at h3;obtain ⟨x,hx,hb,hon⟩:=h3;exact ⟨oj,rfl,x,hx,hb,hon⟩
 ·simp only [okB,aw,sv] at h;have:=h.2 j hj;simp only [aF,GB] at this;rw [wA];exact this
theorem qA.first {Q:Exit→Act→World→Prop} (hP:∀ch a w,¬Q (.panic ch) a w) (hO:∀a w,¬Q .outgrown a w) {i:Nat} {oi:Oper} {v:Value} (hi:ops[i]? = some oi)
  (hsel:∀(j:Nat) (o:Oper) cs b,ops[j]? = some o→o.op≠ .select cs b) {Z:Cx→Prop} {B:List Nat} (hZ:(∀c,Z c)∨Z=K):
  ∀(fuel:Nat) (listed:Array Bool) (a:Act) (c:Cx),
   (∀j oj,ops[j]? = some oj→j≠i→listed.getD j true=false→(∀x∈oj.after,Region.binds .any x=true→x.on≠i)→oi.apart ops oj=true)→
   Wt ops listed i B→((∀c,Z c)∨∀j∈D,listed.getD j true=true∨j∈B)→Z c→
   i∈Region.ready .any ops listed→Yl Z P ops oi v a c→
   qA r D K P ops Q fuel (listed.setIfInBounds i true) (a.put oi.dst v) c→qA r D K P ops Q (fuel+1) listed a c:=by
 have notB:∀(listed:Array Bool) j,Wt ops listed i B→i∈Region.ready .any ops listed→j∈Region.ready .any ops listed→j∉B:=fun listed j hW hr hj hB=>by
  obtain ⟨_,_,oj,hoj,x,hx,hb,hon⟩:=hW j hB;obtain ⟨_,oj',hoj',hall⟩:=mem_ready.1 hj;rw [hoj] at hoj';cases hoj';have h1:=hall x hx hb;have h0:listed.getD x.on true=false:=by
   rcases hon with h | h
   ·rw [h]; exact (mem_ready.1 hr).1
   ·exact (hW _ h).1
  rcases aL x.on listed.size with h' | h'
  ·simp [h'] at h0 h1; rw [h0] at h1; cases h1
  ·simp [jU h'] at h1
 intro fuel
 induction fuel with
 | zero=>
  intro listed a c _ hW hD hz hr hy H;refine ⟨fun h=>(by rw [h] at hr; cases hr),fun j hj=>?_⟩;by_cases hji:j=i
  ·subst hji; exact hy.wpOp hz hi ⟨c,rfl,Cx.le.refl c,.inr id,H⟩
  ·have:=Hz hj hji;rw [H.1] at this;cases this
 | succ fuel ih=>
  intro listed a c hfree hW hD hz hr hy H;refine ⟨fun h=>(by rw [h] at hr; cases hr),fun j hj=>?_⟩;by_cases hji:j=i
  ·subst hji; exact hy.wpOp hz hi ⟨c,rfl,Cx.le.refl c,.inr id,H⟩
  ·have h1:=H.2 j (Hz hj hji);obtain ⟨hjun,oj,hoj,hall⟩:=mem_ready.1 hj;have hnot:∀x∈oj.after,Region.binds .any x=true→x.on≠i:=fun x hx hb heq=>by
    have h1:=hall x hx hb;have h0:=(mem_ready.1 hr).1;rw [heq] at h1;rcases aL i listed.size with h' | h'
    ·simp [h'] at h0 h1; rw [h0] at h1; cases h1
    ·simp [jU h'] at h1
   obtain ⟨ha1,ha2,ha3⟩:=Oper.apart_spec (hfree j oj hoj hji hjun hnot);have hfree':∀k ok,ops[k]? = some ok→k≠i→(listed.setIfInBounds j true).getD k true=false→
     (∀x∈ok.after,Region.binds .any x=true→x.on≠i)→oi.apart ops ok=true:=fun k ok hk hki hun hno=>by
    refine hfree k ok hk hki ?_ hno;by_cases hjk:j=k
    ·subst hjk; exact hjun
    ·rw [GU true hjk] at hun; exact hun
   have hW':Wt ops (listed.setIfInBounds j true) i B:=fun k hk=>by
    obtain ⟨h1,h2⟩:=hW k hk;refine ⟨?_,h2⟩;have hjk:j≠k:=fun e=>by subst e; exact notB listed j hW hr hj hk
    rw [GU true hjk];exact h1
   have hD':(∀c,Z c)∨∀k∈D,(listed.setIfInBounds j true).getD k true=true∨k∈B:=hD.imp id fun h k hk=>by
    rcases h k hk with h | h
    ·by_cases hjk:j=k
     ·subst hjk; rw [hjun] at h; cases h
     ·exact .inl (by rw [GU true hjk]; exact h)
    ·exact .inr h
   have keep:∀(b:Act),b.tmps=a.tmps→∀(u:Value) (c':Cx),c.le c'→Yl Z P ops oi v (b.put oj.dst u) c':=fun b hb u c' hc=>by
    have hbe:b.eval=a.eval:=by funext x; cases x <;> simp [Act.eval,hb]
    have he:execOp (b.put oj.dst u).eval oi=execOp a.eval oi:=hbe▸ HF oi (fun cs b=>hsel i oi cs b hi) _ _ _ ha3;have hw:Region.wanted oi (yielded ops (b.put oj.dst u).tmps)=Region.wanted oi (yielded ops a.tmps):=hb▸ wanted_put oi _ _ _ ha3;unfold Yl at hy⊢;rw [he,hw];exact hy.imp (fun ⟨h1,h2⟩=>⟨h1,fun c'' h hz=>h2 c'' (hc.trans h) hz⟩) id
   have fin:∀(b:Act),b.tmps=a.tmps→∀(u:Value) (w:World),(∃c',w=c'.w∧c.le c'∧(j∈D∨(K c→K c'))∧qA r D K P ops Q fuel ((listed.setIfInBounds i true).setIfInBounds j true) ((b.put oi.dst v).put oj.dst u) c')→
     ∃c',w=c'.w∧c.le c'∧(j∈D∨(K c→K c'))∧qA r D K P ops Q (fuel+1) (listed.setIfInBounds j true) (b.put oj.dst u) c':=by
    rintro b hb u w ⟨c',rfl,hle,hk,h⟩;have hz':Z c':=by
     rcases hZ with h | h
     ·exact h c'
     ·rcases hD with h2 | h2
      ·exact h2 c'
      ·rcases hk with h3 | h3
       ·rcases h2 j h3 with h4 | h4
        ·rw [hjun] at h4; cases h4
        ·exact absurd h4 (notB listed j hW hr hj)
       ·subst h; exact h3 hz
    refine ⟨c',rfl,hle,hk,ih _ _ _ hfree' hW' hD' hz' (Hz hr (tv hji)) (keep b hb u c' hle) ?_⟩;rw [Array.setIfInBounds_comm _ _ hji,←Act.put_comm b v u ha2];exact h
   have he:oj.semAt r (a.put oi.dst v).eval=oj.semAt r a.eval:=A6 oj (fun cs b=>hsel j oj cs b hoj) _ _ _ ha1;have hw:Region.wanted oj (yielded ops (a.put oi.dst v).tmps)=Region.wanted oj (yielded ops a.tmps):=wanted_put oj _ _ _ ha1;unfold Go.wpOpIn at h1⊢;simp only [hoj] at h1⊢;rw [hw] at h1;split
   ·rename_i hww
    rw [af hww] at h1;refine ⟨fun _ _=>trivial,?_⟩;have h1:=h1.2;have hro:(fen r).round=r:=rfl;rw [hro,he] at h1;rw [hro];generalize (oj.semAt r a.eval).run P c.w=res at h1⊢
    cases res with
    | ok x w'=>
     cases x <;> simp only [Oper.uponIn] at h1⊢
     case value u=>exact fin a rfl _ _ h1
     case skip=>exact fin a rfl _ _ h1
     case defer d=>rw [Act.put_defers] at h1; exact fin { a with defers:=_ :: a.defers} rfl _ _ h1
     case enter f args=>
      refine ⟨h1.1,h1.2.mono fun x w'' hx=>?_⟩
      cases x with
      | returned u=>exact fin a rfl _ _ hx
      | panicked ch=>exact absurd hx (hP _ _ _)
      | outgrown=>obtain ⟨a1,w1,h3⟩:=hx; exact absurd h3 (hO _ _)
     case row row args=>exact ⟨h1.1,h1.2.mono fun u w'' hv=>fin a rfl _ _ hv⟩
     case round l f tmps assign body=>
      refine ⟨h1.1,h1.2.mono fun x w'' hx=>?_⟩
      cases x with
      | returned u=>exact fin a rfl _ _ hx
      | panicked ch=>exact absurd hx (hP _ _ _)
      | outgrown=>obtain ⟨a1,w1,h3⟩:=hx; exact absurd h3 (hO _ _)
    | halt x w'=>
     cases x <;> simp only [Oper.uponIn] at h1⊢
     case panic u=>exact absurd h1 (hP _ _ _)
   ·rename_i hww
    rw [ag hww] at h1;exact ⟨fun _ _=>trivial,fin a rfl _ _ h1.2⟩
def AC (D:List Nat) (K:Cx→Prop) (P:Program) (l:List Oper) (n:Fr) (Q:Exit→(Nat→Value)→World→Prop) (fuel:Nat) (li:List Bool) (e:Nat→Value) (c:Cx):Prop:=
 qA n.ro D K P l.toArray (yq n Q) fuel li.toArray (act n e) c
theorem Cx.drew_le (c:Cx):c.but (fun _=>False) ⟨c.w.drew,c.A,c.t⟩:=⟨⟨rfl,rfl,ao _,fun _ _ _ h=>⟨rfl,h⟩,fun _ _ _=>rfl,fun _ _ _=>rfl,fun _ _ _ h=>h⟩,rfl,fun _ _ _=>⟨rfl,fun _=>tA⟩⟩
theorem W.regionD (D:List Nat) (K:Cx→Prop) {id:Nat} {l:List Oper} {e:Nat→Value} {c:Cx} {G:Gm} {F:List En} (O:Own c G F) (hm:P.follows .mixedOrders=true)
  (h:∀c',c.le c'→Own c' G F→AC D K P l n Q l.length (List.replicate l.length false) e c'):W P n (.region id l.toArray true) Q e c.w:=
 wpIn_region_any hm (by
  have:=qA.sound _ _ _ _ (h _ (Cx.drew_le c).le (O.keep (Cx.drew_le c)));rw [show (List.replicate l.length false).toArray=Array.replicate l.toArray.size false by simp] at this;exact this)
variable {l:List Oper} {fuel:Nat} {li:List Bool} {e:Nat→Value} {c:Cx} {o:Oper}
theorem AC.take0 {Z:Cx→Prop} {B:List Nat} (hZ:(∀c,Z c)∨Z=K) {i:Nat} {v:Value} (hi:l.toArray[i]? = some o) (hs:Region.noSelect l.toArray=true) (hf:Region.free .any l.toArray li.toArray i=true)
  (hr:(Region.ready .any l.toArray li.toArray).contains i=true) (hB:Wt l.toArray li.toArray i B) (hD:(∀c,Z c)∨∀j∈D,li.toArray.getD j true=true∨j∈B) (hz:Z c) (hy:Yl Z P l.toArray o v (act n e) c)
  (h:AC D K P l n Q fuel (li.set i true) (upO e o.dst v) c):AC D K P l n Q (fuel+1) li e c:=by
 refine qA.first (fun ch a w h=>h.1) (fun a w h=>h.1) hi (Region.noSelect_spec hs) hZ fuel _ _ c (Region.free_spec hi hf) hB hD hz (by simpa using hr) hy ?_;rw [su];simpa [AC] using h
def tk (l:List Oper) (n:Nat) (li:List Bool) (i:Nat):Bool:=
 Region.noSelect l.toArray && Region.free .any l.toArray li.toArray i && (Region.ready .any l.toArray li.toArray).contains i && eG n l
theorem AC.take (i:Nat) (v:Value) (hi:l.toArray[i]? = some o) (ht:tk l n li i=true) (hw:gE l.toArray n e o=true)
  (hy:∀c',c.le c'→(execOp (ev n e) o).run P c'.w= .ok (.value v) c'.w) (h:AC D K P l n Q fuel (li.set i true) (upO e o.dst v) c):AC D K P l n Q (fuel+1) li e c:=by
 simp only [tk,aw] at ht;exact AC.take0 (Z:=fun _=>True) (B:=[]) (.inl fun _=>trivial) hi ht.1.1.1 ht.1.1.2 ht.1.2 (fun j hj=>by simp at hj) (.inl fun _=>trivial) trivial (.inl ⟨by rw [nI _ _ _ _ (jK ht.2)]; exact hw,by rw [mX]; exact fun c' hc _=>hy c' hc⟩) h
theorem AC.takeb (i:Nat) {t b:Bool} (htb:t=b) (hi:l.toArray[i]? = some o) (ht:tk l n li i=true) (hw:gE l.toArray n e o=true)
  (hy:∀c',c.le c'→(execOp (ev n e) o).run P c'.w= .ok (.value (.bool t)) c'.w) (h:AC D K P l n Q fuel (li.set i true) (upO e o.dst (.bool b)) c):AC D K P l n Q (fuel+1) li e c:=by
 subst htb;exact AC.take i _ hi ht hw hy h
theorem AC.takeK (i:Nat) (v:Value) (hk:K c) (hi:l.toArray[i]? = some o) (ht:tk l n li i=true) (hB:okB l.toArray li i D=true) (hw:gE l.toArray n e o=true)
  (hy:∀c',c.le c'→K c'→(execOp (ev n e) o).run P c'.w= .ok (.value v) c'.w) (h:AC D K P l n Q fuel (li.set i true) (upO e o.dst v) c):AC D K P l n Q (fuel+1) li e c:=by
 simp only [tk,aw] at ht;obtain ⟨B,h1,h2⟩:=CE hB;exact AC.take0 (Z:=K) (B:=B) (.inr rfl) hi ht.1.1.1 ht.1.1.2 ht.1.2 h1 (.inr h2) hk (.inl ⟨by rw [nI _ _ _ _ (jK ht.2)]; exact hw,by rw [mX]; exact hy⟩) h
theorem AC.pass (i:Nat) (hi:l.toArray[i]? = some o) (ht:tk l n li i=true) (hw:gE l.toArray n e o=false)
  (h:AC D K P l n Q fuel (li.set i true) (upO e o.dst undef) c):AC D K P l n Q (fuel+1) li e c:=by
 simp only [tk,aw] at ht;exact AC.take0 (Z:=fun _=>True) (B:=[]) (.inl fun _=>trivial) hi ht.1.1.1 ht.1.1.2 ht.1.2 (fun j hj=>by simp at hj) (.inl fun _=>trivial) trivial (.inr ⟨by rw [nI _ _ _ _ (jK ht.2)]; exact hw,rfl⟩) h
def Go1 (D:List Nat) (K:Cx→Prop) (P:Program) (l:List Oper) (n:Fr) (Q:Exit→(Nat→Value)→World→Prop) (fuel:Nat) (li:List Bool) (e:Nat→Value) (c:Cx) (i:Nat):Prop:=
 wpOpIn (fen n.ro) 0 P l.toArray (yq n Q) i (fun a' w=>∃c',w=c'.w∧c.le c'∧(i∈D∨(K c→K c'))∧qA n.ro D K P l.toArray (yq n Q) fuel (li.toArray.setIfInBounds i true) a' c') (act n e) c.w
def EV (p:Nat→Prop):List Nat→Prop
 | []=>True
 | i :: l=>p i∧EV p l
theorem EV.mem {p:Nat→Prop}:∀{l:List Nat},EV p l→∀i∈l,p i
 | [],_,i,hi=>by cases hi
 | a :: l,h,i,hi=>by
  rcases List.mem_cons.1 hi with rfl | hi
  ·exact h.1
  ·exact h.2.mem i hi
theorem AC.many (is:List Nat) (hne:is≠ []) (hr:Region.ready .any l.toArray li.toArray=is) (h:EV (Go1 D K P l n Q fuel li e c) is):AC D K P l n Q (fuel+1) li e c:=
 ⟨fun h0=>(by rw [hr] at h0; exact absurd h0 hne),fun j hj=>h.mem j (hr▸ hj)⟩
theorem Go1.mk {i:Nat} (hi:l.toArray[i]? = some o) (hsl:eG n l=true) (hw:gE l.toArray n e o=true)
  (h:o.wpIn (fen n.ro) 0 P (act n e) c.w (fun a w=>∃e' c',a=act n e'∧w=c'.w∧c.le c'∧(i∈D∨(K c→K c'))∧AC D K P l n Q fuel (li.set i true) e' c') (yq n Q)):Go1 D K P l n Q fuel li e c i:=by
 unfold Go1 wpOpIn;simp only [hi];rw [af (by rw [nI _ _ _ _ (jK hsl)]; exact hw)];refine Oper.wpIn_mono ?_ h;rintro a w ⟨e',c',rfl,rfl,hle,hk,h'⟩;exact ⟨c',rfl,hle,hk,by simpa [AC] using h'⟩
theorem Go1.val {i:Nat} {v:Value} {c':Cx} (hi:l.toArray[i]? = some o) (hsl:eG n l=true) (hw:gE l.toArray n e o=true)
  (hrun:(execOp (ev n e) o).run P c.w= .ok (.value v) c'.w) (hle:c.le c') (hk:D.contains i=true∨K c') (h:AC D K P l n Q fuel (li.set i true) (upO e o.dst v) c'):Go1 D K P l n Q fuel li e c i:=
 Go1.mk hi hsl hw (CC hrun ⟨_,c',rfl,rfl,hle,hk.imp (by simp) fun h _=>h,h⟩)
theorem Go1.do_ {i:Nat} {c':Cx} (hi:l.toArray[i]? = some o) (hsl:eG n l=true) (hw:gE l.toArray n e o=true)
  (hrun:(execOp (ev n e) o).run P c.w= .ok .skip c'.w) (hle:c.le c') (hk:D.contains i=true∨K c') (h:AC D K P l n Q fuel (li.set i true) (upO e o.dst undef) c'):Go1 D K P l n Q fuel li e c i:=
 Go1.mk hi hsl hw (E3 hrun ⟨_,c',rfl,rfl,hle,hk.imp (by simp) fun h _=>h,h⟩)
theorem Go1.call {i:Nat} {f:FuncId} {args:Array Value} {X:Cx→Value→Prop} (hi:l.toArray[i]? = some o) (hsl:eG n l=true) (hw:gE l.toArray n e o=true)
  (hrun:(execOp (ev n e) o).run P c.w= .ok (.enter f args) c.w) (hc:Calls P f args c.w (aQ c X))
  (h:∀v c',c.le c'→X c' v→(D.contains i=true∨K c')∧AC D K P l n Q fuel (li.set i true) (upO e o.dst v) c'):Go1 D K P l n Q fuel li e c i:=
 Go1.mk hi hsl hw (Ay hrun (hc.mono fun x w=>by
  rintro ⟨v,c',rfl,rfl,hx,hX⟩;have:=h v c' hx hX;exact ⟨v,rfl,_,c',rfl,rfl,hx,this.1.imp (by simp) fun h _=>h,this.2⟩))
theorem AC.done (hr:Region.ready .any l.toArray li.toArray= []) (h:Q .normal e c.w):AC D K P l n Q fuel li e c:=by
 cases fuel with
 | zero=>exact ⟨hr,trivial,e,rfl,h⟩
 | succ k=>exact ⟨fun _=>⟨trivial,e,rfl,h⟩,by rw [hr]; simp⟩
theorem AC.gh {c':Cx} (hw:c'.w=c.w) (hA:c.le c') (hk:K c→K c') (h:AC D K P l n Q fuel li e c'):AC D K P l n Q fuel li e c:=by
 have key:∀(fuel:Nat) (listed:Array Bool) (a:Act),qA n.ro D K P l.toArray (yq n Q) fuel listed a c'→qA n.ro D K P l.toArray (yq n Q) fuel listed a c:=fun fuel listed a h=>by
  cases fuel with
  | zero=>exact ⟨h.1,by rw [←hw]; exact h.2⟩
  | succ fuel=>
   refine ⟨fun h0=>by rw [←hw]; exact h.1 h0,fun i hi=>?_⟩;have:=h.2 i hi;rw [hw] at this;exact wpOpIn_mono (fun a w ⟨c2,h1,h2,h3,h4⟩=>⟨c2,h1,hA.trans h2,h3.imp id fun h5 h6=>h5 (hk h6),h4⟩) this
 exact key _ _ _ h
theorem WL.callP {ops:Array Oper} {rest:List Oper} {f:FuncId} {args:Array Value} {X:Cx→Value→Prop} (hg:o.guard=none) (hr:(execOp (ev n e) o).run P c.w= .ok (.enter f args) c.w)
  (hc:Calls P f args c.w (aQ c X)) (h:∀v c',c.le c'→X c' v→WL P ops n Q rest (upO e o.dst v) c'.w):WL P ops n Q (o :: rest) e c.w:=
 WL.call hg hr (hc.mono fun x w ⟨v,c',h1,h2,h3,h4⟩=>⟨v,h1,by subst h2; exact h v c' h3 h4⟩)
theorem WL.gh {ops:Array Oper} {rest:List Oper} {c':Cx} (hw:c'.w=c.w) (h:WL P ops n Q rest e c'.w):WL P ops n Q rest e c.w:=hw▸ h
end
end Go.Lt
namespace Go.Lt
section
variable {P:Program} {c c':Cx} {G:Gm} {F:List En} {α:Type} {R:Rp α}
theorem rv {s:Sem Value} {w w':World} {v:Value} (h:s.run P w= .ok v w'):(do pure (Next.value (←s)):Sem Next).run P w= .ok (.value v) w':=by
  simp [h,Result.andThen]
theorem rs {s:Sem Unit} {w w':World} (h:s.run P w= .ok () w'):(do s; pure Next.skip:Sem Next).run P w= .ok .skip w':=by
  simp [h,Result.andThen]
theorem rx {ρ:Operand→Value} {o:Oper} {s:Sem Value} {w w':World} {v:Value} (hx:execOp ρ o=(do pure (Next.value (←s)):Sem Next)) (h:s.run P w= .ok v w'):(execOp ρ o).run P w= .ok (.value v) w':=by
  rw [hx];exact rv h
theorem jL {v:Value} {xs:List α} {T E:TypeId} {k:IntKind} {i:Int} {x:α} (hT:P.underlying T=some (.slice E)) (hE:(P.info? E).map (·.size)=some R.size)
    (h:Sl R c v xs) (hi:idx xs i=some x) (w:World):(Instr.indexAt T v (.int k i)).run P w= .ok (.pointer (some ⟨sb v,so v+i.toNat * R.size,none⟩)) w:=by
  obtain ⟨a,cap,rfl,_,_,h4⟩:=h;unfold idx at hi;split at hi
  · rename_i h0
    have hlt:i.toNat < xs.length:=by
      rcases aL i.toNat xs.length with h | h
      · exact h
      · rw [aR h] at hi; cases hi
    obtain ⟨b,off,l,rfl,_,_⟩:=h4 _ _ hi;obtain ⟨ti,hti,hsz⟩:=Option.map_eq_some_iff.1 hE;have hlt':i < xs.length:=by omega
    simp [Instr.indexAt,asIntOf,bY hT,h0,hlt',sizeOf,typeInfo,hti,hsz,sb,so,dX]
  · cases hi
theorem qd {v:Value} {xs:List α} {T E ty:TypeId} (hT:P.underlying T=some (.slice E)) (h:Sl R c v xs) (w:World):
    (Builtin.len_ #[T] ty #[v]).run P w= .ok (.int .i64 (xs.length:Int)) w:=by
  obtain ⟨a,cap,rfl,_⟩:=h;simp [Builtin.len_,bY hT,goInt]
theorem ic {T:TypeId} {b o:Nat} {v:Value} {d:TypeDesc} (hT:P.underlying T=some d) (hd:(match d with | .struct _ | .array _ _=>false | _=>true)=true)
    (h:Im c b o v):(Instr.loadAt T (.pointer (some ⟨b,o,none⟩))).run P c.w= .ok v c.w:=by
  cases d <;> simp_all [Instr.loadAt,Instr.sureAddr,loadVar,isAgg,bY hT,load,Sem.run,h.cell]
theorem ry (b:Nat) {w:World}:∀(l:List Value) (o i:Nat) (acc:Array Value),(∀j u,l[j]? = some u→w.cell? ⟨b,o+i+j,none⟩=some u)→
    (loadCellsFrom ⟨b,o,none⟩ i l.length acc).run P w= .ok (acc++l.toArray) w:=by
  intro l
  induction l with
  | nil=>intro o i acc h; simp [loadCellsFrom]
  | cons v l ih=>
    intro o i acc h;have h0:=h 0 v rfl;simp only [pb] at h0;simp only [az,loadCellsFrom,dX,load,fO,Sem.run,h0,Result.andThen];rw [ih o (i+1) (acc.push v) (fun j u hu=>by have:=h (j+1) u hu; rwa [show o+i+(j+1)=o+(i+1)+j by omega] at this)];simp
theorem nJ {w:World} {T:TypeId} {b o:Nat} {l:List Value} (hT:(P.underlying T).map (fun d=>match d with | .struct _ | .array _ _=>true | _=>false)=some true) (hs:(P.info? T).map (·.size)=some l.length)
    (h:∀j u,l[j]? = some u→w.cell? ⟨b,o+j,none⟩=some u):(loadVar T ⟨b,o,none⟩).run P w= .ok (.agg l.toArray) w:=by
  obtain ⟨ti,hti,hsz⟩:=Option.map_eq_some_iff.1 hs;obtain ⟨d,hd,hag⟩:=Option.map_eq_some_iff.1 hT;have h1:=ry (P:=P) (w:=w) b l o 0 #[] (fun j u hu=>h j u hu);have h2:(isAgg T).run P w= .ok true w:=by
    cases d <;> simp_all [isAgg,bY hd]
  rw [←hsz] at h1;simp [loadVar,h2,sizeOf,typeInfo,hti,loadCells,h1,Result.andThen]
theorem wm {T:TypeId} {b o:Nat} {l:List Value} (hT:(P.underlying T).map (fun d=>match d with | .struct _ | .array _ _=>true | _=>false)=some true) (hs:(P.info? T).map (·.size)=some l.length)
    (h:∀j u,l[j]? = some u→Im c b (o+j) u):(Instr.loadAt T (.pointer (some ⟨b,o,none⟩))).run P c.w= .ok (.agg l.toArray) c.w:=by
  simp only [Instr.loadAt,Instr.sureAddr,fO,zn,Result.andThen];exact nJ hT hs fun j u hu=>(h j u hu).cell
theorem E5 {b o k:Nat} {L l:List Value} (h:∀j u,L[j]? = some u→Im c b (o+j) u) (hl:(L.drop k).take l.length=l):∀j u,l[j]? = some u→Im c b (o+k+j) u:=fun j u hu=>by
  rw [←hl,aP] at hu;split at hu
  · rw [bM] at hu
    have:=h _ _ hu
    rwa [rh]
  · cases hu
theorem En.on.cell {e:En} (h:e.on c) {b:Nat} (hb:blk e.v=some b) (j:Nat):c.w.cell? ⟨b,j,none⟩=e.vs[j]? :=by
  simp [World.cell?,(h b hb).1]
theorem my {T:TypeId} {e:En} {b j:Nat} {v:Value} {d:TypeDesc} (hT:P.underlying T=some d) (hd:(match d with | .struct _ | .array _ _=>false | _=>true)=true)
    (h:e.on c) (hb:blk e.v=some b) (hj:e.vs[j]? = some v):(Instr.loadAt T (.pointer (some ⟨b,j,none⟩))).run P c.w= .ok v c.w:=by
  have hc:c.w.cell? ⟨b,j,none⟩=some v:=by rw [h.cell hb,hj]
  cases d <;> simp_all [Instr.loadAt,Instr.sureAddr,loadVar,isAgg,bY hT,load,Sem.run]
theorem FO {T:TypeId} {e:En} {b j:Nat} {l:List Value} (hT:(P.underlying T).map (fun d=>match d with | .struct _ | .array _ _=>true | _=>false)=some true) (hs:(P.info? T).map (·.size)=some l.length)
    (h:e.on c) (hb:blk e.v=some b) (hl:(e.vs.drop j).take l.length=l):(Instr.loadAt T (.pointer (some ⟨b,j,none⟩))).run P c.w= .ok (.agg l.toArray) c.w:=by
  simp only [Instr.loadAt,Instr.sureAddr,fO,zn,Result.andThen];refine nJ hT hs fun i u hu=>?_;have:(e.vs.drop j)[i]? = some u:=by
    rw [←hl,aP] at hu;split at hu
    · exact hu
    · cases hu
  rw [bM] at this;rw [h.cell hb,this]
def lm:List Value→Prop
  | []=>True
  | u :: l=>u.oneCell'=true∧lm l
theorem lm.mem:∀{l:List Value},lm l→∀u∈l,u.oneCell'=true
  | [],_,u,hu=>by cases hu
  | a :: l,h,u,hu=>by
    rcases List.mem_cons.1 hu with rfl | hu
    · exact h.1
    · exact h.2.mem u hu
theorem frozen?_row {w w':World} {b:Nat} {l m:Array Value} {T:TypeId} (h:w.heap[b]? = some (.cells l T (0,0))) (h':w'.heap[b]? = some (.cells m T (0,0))) (ho:∀k,k≠b→w'.heap[k]? = w.heap[k]?) (a:Addr):w'.frozen? a=w.frozen? a:=by
  by_cases hk:a.block=b
  · simp [World.frozen?,hk,h,h']
  · simp [World.frozen?,ho _ hk]
theorem Cx.row {b:Nat} {l m:List Value} {T:TypeId} (h:c.w.heap[b]? = some (.cells l.toArray T (0,0))) (lim:Nat) (hA:∀o,c.A b o↔lim≤o) (hs:∀o,o < lim→m[o]? = l[o]?) (lim':Nat) (hl:lim≤lim'):
    ∃c':Cx,c'.w=c.w.setRow b m.toArray∧c.but (fun k=>k=b) c'∧c'.w.heap[b]? = some (.cells m.toArray T (0,0))∧∀o,c'.A b o↔lim'≤o:=by
  have hbk:=Ao c.w b l.toArray m.toArray T (0,0) h;have hoth:∀k,k≠b→(c.w.setRow b m.toArray).heap[k]? = c.w.heap[k]? :=fun k hk=>Fv c.w b k _ hk;have hsz:(c.w.setRow b m.toArray).heap.size=c.w.heap.size:=by simp [World.setRow]
  refine ⟨⟨c.w.setRow b m.toArray,fun k o=>(k≠b∧c.A k o)∨(k=b∧lim'≤o),c.t⟩,rfl,⟨⟨rfl,rfl,by rw [hsz]; exact ao _,fun k o hk hnA=>?_,fun k hk hnA=>?_,fun a _ _=>frozen?_row h hbk hoth a,fun _ _ _ h=>h⟩,rfl,fun k hk hkb=>⟨hoth k hkb,fun o=>?_⟩⟩,hbk,fun o=>?_⟩
  · by_cases hkb:k=b
    · subst hkb
      have ho:o < lim:=by
        rcases aL o lim with h | h
        · exact h
        · exact absurd ((hA o).2 h) hnA
      refine ⟨?_,?_⟩
      · rw [cell_setRow_same c.w k o l.toArray _ T (0,0) h,fV c.w k o l.toArray T (0,0) h,bI,bI,hs o ho]
      · rintro (h | h)
        · exact h.1 rfl
        · omega
    · refine ⟨dO (w:=c.w) (a:=⟨k,o,none⟩) (hoth k hkb),?_⟩
      rintro (h | h)
      · exact hnA h.2
      · exact hkb h.1
  · by_cases hkb:k=b
    · subst hkb
      exact absurd ((hA lim).2 (ao _)) (hnA lim)
    · exact hoth k hkb
  · simp [hkb]
  · simp
theorem stE {T:TypeId} {e:En} {b o:Nat} {us:List Value} {v:Value} (h:e.on c) (hb:blk e.v=some b) (hlim:e.lim=0) (hv:v.cells.toList=us) (hs:(P.info? T).map (·.size)=some us.length) (h1:lm us)
    (hl:o+us.length≤e.vs.length):∃c',(Instr.storeAt T (.pointer (some ⟨b,o,none⟩)) v).run P c.w= .ok () c'.w∧c.but (fun k=>k=b) c'∧(⟨e.v,e.T,e.vs.take o++us++e.vs.drop (o+us.length),0⟩:En).on c':=by
  obtain ⟨ti,hti,hsz⟩:=Option.map_eq_some_iff.1 hs;have hh:=h b hb;have h2:=yb P b o e.T us 0 e.vs.toArray c.w hh.1 (by simpa using hl) h1.mem;have hz:v.cells.size=us.length:=by rw [←hv]; simp
  simp only [pb] at h2;obtain ⟨c',e1,e2,e3,e4⟩:=Cx.row (m:=e.vs.take o++us++e.vs.drop (o+us.length)) hh.1 e.lim hh.2 (fun o ho=>by omega) 0 (by omega);refine ⟨c',?_,e2,fun b' hb'=>?_⟩
  · rw [e1]
    simp [Instr.storeAt,Instr.sureAddr,storeVar,sizeOf,typeInfo,hti,hsz,hz,hv,h2,Result.andThen]
  · simp only at hb'
    rw [hb] at hb';cases hb';exact ⟨e3,e4⟩
variable {ρ:Operand→Value} {o:Oper}
theorem Own.st {T:TypeId} {e:En} {b j:Nat} {us nw:List Value} {v:Value} (k:Nat) (O:Own c G F) (hx:execOp ρ o=(do Instr.storeAt T (.pointer (some ⟨b,j,none⟩)) v; pure Next.skip:Sem Next)) (hk:F[k]? = some e) (hb:blk e.v=some b) (hlim:e.lim=0)
    (hv:v.cells.toList=us) (hs:(P.info? T).map (·.size)=some us.length) (h1:lm us) (hl:Nat.ble (j+us.length) e.vs.length=true) (hn:e.vs.take j++us++e.vs.drop (j+us.length)=nw):
    ∃c',(execOp ρ o).run P c.w= .ok .skip c'.w∧c.le c'∧Own c' G (F.set k ⟨e.v,e.T,nw,0⟩):=by
  subst hn;obtain ⟨c',h1,h2,h3⟩:=stE (O.on k hk) hb hlim hv hs h1 (bH hl);exact ⟨c',by rw [hx]; exact rs h1,h2.le,O.set k hk h2 (fun b' hb'=>by rw [hb,hb']) h3 (fun b h=> .inl h)⟩
theorem Own.stG {T:TypeId} {e:En} {b j:Nat} {us nw:List Value} {v:Value} {g k:Nat} {E:List En} (r:Nat) (O:Own c G F) (hx:execOp ρ o=(do Instr.storeAt T (.pointer (some ⟨b,j,none⟩)) v; pure Next.skip:Sem Next)) (hE:G g k=E) (hr:E[r]? = some e) (hb:blk e.v=some b) (hlim:e.lim=0)
    (hv:v.cells.toList=us) (hs:(P.info? T).map (·.size)=some us.length) (h1:lm us) (hl:Nat.ble (j+us.length) e.vs.length=true) (hn:e.vs.take j++us++e.vs.drop (j+us.length)=nw):
    ∃c',(execOp ρ o).run P c.w= .ok .skip c'.w∧c.le c'∧Own c' (fm G g k (E.set r ⟨e.v,e.T,nw,0⟩)) F:=by
  subst hn;obtain ⟨c',h1,h2,h3⟩:=stE (O.gon hE r hr) hb hlim hv hs h1 (bH hl);exact ⟨c',by rw [hx]; exact rs h1,h2.le,O.setR r hE hr h2 (fun b' hb'=>by rw [hb,hb']) h3 (fun b h=> .inl h)⟩
theorem Cx.new (c:Cx) (vs:List Value) (T:TypeId) (lim:Nat):∃c':Cx,c'.w=c.w.alloc (.cells vs.toArray T)∧c.but (fun _=>False) c'∧c'.w.heap[c.w.heap.size]? = some (.cells vs.toArray T (0,0))∧c.w.heap.size < c'.w.heap.size∧∀o,c'.A c.w.heap.size o↔lim≤o:=
  ⟨⟨c.w.alloc (.cells vs.toArray T),fun k p=>(k < c.w.heap.size∧c.A k p)∨(k=c.w.heap.size∧lim≤p),c.t⟩,rfl,
   ⟨⟨rfl,rfl,by simp,fun k p hk hA=>⟨dO (w:=c.w) (a:=⟨k,p,none⟩) (cU _ _ _ hk),by rintro (h | h); exact hA h.2; omega⟩,fun k hk _=>cU _ _ _ hk,fun a _ _=>DI _ _ _ _,fun _ _ _ h=>h⟩,rfl,
    fun k hk _=>⟨cU _ _ _ hk,fun p=>⟨by rintro (h | h); exact h.2; omega,fun h=> .inl ⟨hk,h⟩⟩⟩⟩,uY c.w _,by simp,fun o=>by simp⟩
theorem Own.al {T:TypeId} {vs:List Value} (O:Own c G F) (hr:(execOp ρ o).run P c.w= .ok (.value (.pointer (some ⟨c.w.heap.size,0,none⟩))) (c.w.alloc (.cells vs.toArray T))):
    ∃v c',(execOp ρ o).run P c.w= .ok (.value v) c'.w∧c.le c'∧∃b,v= .pointer (some ⟨b,0,none⟩)∧Own c' G (⟨.pointer (some ⟨b,0,none⟩),T,vs,0⟩ :: F):=by
  obtain ⟨c',h1,h2,h3,_,h4⟩:=Cx.new c vs T 0;refine ⟨_,c',by rw [h1]; exact hr,h2.le,_,rfl,O.cons h2 (fun _=>id) (fun b hb=>?_) (fun b hb=>?_)⟩
  · simp only [blk,aM] at hb; subst hb; exact ⟨h3,h4⟩
  · simp only [blk,aM] at hb; omega
theorem Own.bx {T:TypeId} {vs:List Value} (O:Own c G F) (hr:(execOp ρ o).run P c.w= .ok (.value (.pointer (some ⟨c.w.heap.size,0,none⟩))) (c.w.alloc (.cells vs.toArray T))):
    ∃v c',(execOp ρ o).run P c.w= .ok (.value v) c'.w∧c.le c'∧∃b,v= .pointer (some ⟨b,0,none⟩)∧Own c' G F∧∀j u,vs[j]? = some u→Im c' b (0+j) u:=by
  obtain ⟨c',h1,h2,h3,h5,h4⟩:=Cx.new c vs T vs.length;refine ⟨_,c',by rw [h1]; exact hr,h2.le,_,rfl,O.keep h2,fun j u hu=>⟨h5,fun hA=>?_,?_⟩⟩
  · have h6:=(h4 _).1 hA
    have:=(List.getElem?_eq_some_iff.1 hu).1;omega
  · rw [fV _ _ _ _ _ _ h3,bI,iU,hu]
def AR (R:Rp α) (c:Cx) (vs:List Value) (xs:List α):Prop:=∀i x,xs[i]? = some x→R.cells c ((vs.drop (i * R.size)).take R.size) x
def OA (R:Rp α) (c:Cx) (v:Value) (vs:List Value) (xs:List α):Prop:=
  0 < R.size∧((v= .slice none 0 0∧xs= [])∨∃g cap,v= .slice (some ⟨g,0,none⟩) xs.length cap∧xs.length≤cap∧cap≤maxLen∧cap * R.size≤vs.length)∧AR R c vs xs
def es (m:Bool) (R:Rp α) (v:Value) (E:TypeId) (vs:List Value) (xs:List α):En:=⟨v,E,vs,cond m 0 (xs.length * R.size)⟩
theorem AR.lw {vs:List Value} {xs:List α} (h:AR R c vs xs) (k:c.lw c'):AR R c' vs xs:=fun i x hx=>R.mono k (h i x hx)
theorem AR.mono {vs:List Value} {xs:List α} (h:AR R c vs xs) (k:c.le c'):AR R c' vs xs:=h.lw k.lw
theorem OA.lw {v:Value} {vs:List Value} {xs:List α} (h:OA R c v vs xs) (k:c.lw c'):OA R c' v vs xs:=⟨h.1,h.2.1,h.2.2.lw k⟩
theorem OA.mono {v:Value} {vs:List Value} {xs:List α} (h:OA R c v vs xs) (k:c.le c'):OA R c' v vs xs:=h.lw k.lw
theorem OA.nil (h0:0 < R.size):OA R c (.slice none 0 0) [] []:=⟨h0,.inl ⟨rfl,rfl⟩,fun i x h=>by simp at h⟩
theorem OA.one {v:Value} {vs:List Value} {xs:List α} (h:OA R c v vs xs):v.oneCell'=true:=by
  rcases h.2.1 with ⟨rfl,_⟩ | ⟨g,cap,rfl,_⟩ <;> rfl
theorem OA.len_le {v:Value} {vs:List Value} {xs:List α} (h:OA R c v vs xs):xs.length≤9223372036854775807:=by
  rcases h.2.1 with ⟨_,rfl⟩ | ⟨g,cap,_,h1,h2,_⟩
  · simp
  · unfold maxLen at h2; omega
theorem rB {v:Value} {vs:List Value} {xs:List α} {T E ty:TypeId} (hT:P.underlying T=some (.slice E)) (h:OA R c v vs xs) (w:World):
    (Builtin.len_ #[T] ty #[v]).run P w= .ok (.int .i64 (xs.length:Int)) w:=by
  rcases h.2.1 with ⟨rfl,rfl⟩ | ⟨g,cap,rfl,_⟩ <;> simp [Builtin.len_,bY hT,goInt]
theorem gZ {β:Type} {a b:List β} {i s:Nat} (h:i+s≤a.length):((a++b).drop i).take s=(a.drop i).take s:=by
  rw [oq (by omega),fZ (by rw [bj]; omega)]
theorem iO {i k s:Nat} (h:i < k):i * s+s≤k * s:=by
  have:=oo s (show i+1≤k by omega);rw [fY,mw] at this;exact this
theorem AR.len {vs:List Value} {xs:List α} (h:AR R c vs xs) (hp:0 < R.size):xs.length * R.size≤vs.length:=by
  rcases pY xs.length with h0 | h0
  · rw [h0,tw]; exact db _
  · have hx:xs[xs.length - 1]? = some xs[xs.length - 1]:=ab (by omega)
    have:=R.len (h _ _ hx);rw [aA,bj] at this;have e:xs.length * R.size=(xs.length - 1) * R.size+R.size:=by
      conv=>lhs; rw [show xs.length=xs.length - 1+1 by omega,fY,mw]
    omega
theorem OA.sl {v:Value} {E:TypeId} {vs:List Value} {xs:List α} (h:OA R c v vs xs) (hon:(es false R v E vs xs).on c):Sl R c v xs:=by
  obtain ⟨hp,h1,h2⟩:=h;rcases h1 with ⟨rfl,rfl⟩ | ⟨g,cap,rfl,hc,hm,hcs⟩
  · exact Sl.nl R c
  · obtain ⟨h3,h4⟩:=hon g rfl
    refine ⟨_,cap,rfl,hc,hm,fun i x hx=>⟨g,0,_,rfl,h2 i x hx,fun j u hu=>?_⟩⟩;have hj:j < R.size∧vs[i * R.size+j]? = some u:=by
      rw [aP] at hu;split at hu
      · rename_i hj
        exact ⟨hj,by rwa [bM] at hu⟩
      · cases hu
    have hi:=iO (s:=R.size) (List.getElem?_eq_some_iff.1 hx).1;refine ⟨(Array.getElem?_eq_some_iff.1 h3).1,fun hA=>?_,?_⟩
    · have:=(h4 _).1 hA
      simp only [es,HG] at this;omega
    · rw [fV _ _ _ _ _ _ h3,bI,iU]
      exact hj.2
theorem Own.frz {v:Value} {E:TypeId} {vs:List Value} {xs:List α} (k:Nat) (O:Own c G F) (hk:F[k]? = some (es true R v E vs xs)) (h:OA R c v vs xs):
    ∃c',c'.w=c.w∧c.le c'∧Own c' G (F.set k (es false R v E vs xs))∧Sl R c' v xs:=by
  have hon:=O.on k hk
  let c':Cx:=⟨c.w,fun b o=>c.A b o∧¬(blk v=some b∧o < xs.length * R.size),c.t⟩
  have hle:c.le c':=⟨rfl,rfl,ao _,fun _ _ _ h=>⟨rfl,fun h2=>h h2.1⟩,fun _ _ _=>rfl,fun _ _ _=>rfl,fun _ _ _ h=>h⟩;have hb:c.but (fun b=>blk v=some b) c':=⟨hle,rfl,fun b hb hd=>⟨rfl,fun o=>⟨fun h=>h.1,fun h=>⟨h,fun h2=>hd h2.1⟩⟩⟩⟩;have hon':(es false R v E vs xs).on c':=fun b hb=>by
    obtain ⟨h1,h2⟩:=hon b hb;refine ⟨h1,fun o=>?_⟩;have hb':blk v=some b:=hb;simp only [c',hb',uv,es,HG];rw [h2 o];simp [es]
  exact ⟨c',rfl,hle,O.set k hk hb (fun b h=>h) hon' (fun b h=> .inl h),(h.mono hle).sl hon'⟩
theorem Own.slf {v:Value} {E:TypeId} {vs:List Value} {xs:List α} (k:Nat) (O:Own c G F) (hk:F[k]? = some (es false R v E vs xs)) (h:OA R c v vs xs):Sl R c v xs:=h.sl (O.on k hk)
theorem Sl.flat {u:Value} {ys:List α} (h:Sl R c u ys):∃nw:List Value,nw.length=ys.length * R.size∧(∀j w,nw[j]? = some w→Im c (sb u) (so u+j) w)∧(∀w∈nw,w.oneCell'=true)∧
    (∀i x,ys[i]? = some x→R.cells c ((nw.drop (i * R.size)).take R.size) x):=by
  suffices ∀k,k≤ys.length→∃nw:List Value,nw.length=k * R.size∧(∀j w,nw[j]? = some w→Im c (sb u) (so u+j) w)∧(∀w∈nw,w.oneCell'=true)∧
      (∀i x,i < k→ys[i]? = some x→R.cells c ((nw.drop (i * R.size)).take R.size) x) by
    obtain ⟨nw,h1,h2,h3,h4⟩:=this ys.length (ao _);exact ⟨nw,h1,h2,h3,fun i x hx=>h4 i x (List.getElem?_eq_some_iff.1 hx).1 hx⟩
  intro k
  induction k with
  | zero=>exact fun _=>⟨[],by simp,by simp,by simp,fun i x hi=>by omega⟩
  | succ k ih=>
    intro hk;obtain ⟨nw,h1,h2,h3,h4⟩:=ih (by omega);have hx:ys[k]? = some ys[k]:=ab (by omega);obtain ⟨l,hl,hc⟩:=h.at hx;have hll:=R.len hl;refine ⟨nw++l,by rw [aj,h1,hll,fY,mw],fun j w hw=>?_,fun w hw=>?_,fun i x hi hxi=>?_⟩
    · rcases aL j nw.length with hj | hj
      · rw [aB hj] at hw
        exact h2 j w hw
      · rw [aG hj] at hw
        have:=hc _ _ hw;rw [h1] at this
        rwa [show so u+k * R.size+(j - k * R.size)=so u+j by omega] at this
    · rcases List.mem_append.1 hw with hw | hw
      · exact h3 w hw
      · exact R.one hl w hw
    · rcases aL i k with hik | hik
      · rw [gZ (by rw [h1]; exact iO hik)]
        exact h4 i x hik hxi
      · obtain rfl:i=k:=by omega
        rw [hx] at hxi;cases hxi;rw [←h1,jI,aT (by omega)];exact hl
theorem oM (z:Array Value) (n:Nat):(Builtin.zeroCells z n).size=n * z.size:=by simp [Builtin.zeroCells]
theorem vB {E t ty:TypeId} {v:Value} {vs:List Value} {xs ys zs:List α} {z:Value} {by_:Nat} {m:Bool} {ua:Option Addr} {ucap:Nat} {nw:List Value} (k:Nat) (O:Own c G F) (hk:F[k]? = some (es m R v E vs xs)) (h:OA R c v vs xs)
    (n1:nw.length=ys.length * R.size) (n2:ys≠ []→∃ub uo,ua=some ⟨ub,uo,none⟩∧∀j w,nw[j]? = some w→c.w.cell? ⟨ub,uo+j,none⟩=some w) (n3:∀w∈nw,w.oneCell'=true) (n4:∀i x,ys[i]? = some x→R.cells c ((nw.drop (i * R.size)).take R.size) x) (happ:app xs ys=some zs)
    (hT:P.underlying t=some (.slice E)) (hi:(P.info? E).map (fun i=>(i.zero,i.size,i.bytes))=some (some z,R.size,by_)) (hz:z.cells.size=R.size) (hby:Nat.ble by_ 128=true):
    ∃v' c',(Builtin.append_ #[t,t] ty #[v,.slice ua ys.length ucap]).run P c.w= .ok v' c'.w∧c.le c'∧∃vs',Own c' G (F.set k (es m R v' E vs' zs))∧OA R c' v' vs' zs:=by
  have hby:=bH hby;have hfar:xs.length+ys.length≤far∧xs++ys=zs:=by
    unfold app at happ;split at happ
    · exact ⟨by assumption,by simpa using happ⟩
    · cases happ
  obtain ⟨hfar,rfl⟩:=hfar;unfold far at hfar;obtain ⟨ti,hti,hzz⟩:=Option.map_eq_some_iff.1 hi;simp only [jl] at hzz;obtain ⟨hz1,hz2,hz3⟩:=hzz;have hon:=O.on k hk;have hklt:=(List.getElem?_eq_some_iff.1 hk).1;have hh:=h;obtain ⟨hp,h1,h2⟩:=h;by_cases hys:ys= []
  · subst hys
    refine ⟨v,c,?_,Cx.le.refl c,vs,?_,by rw [dy]; exact hh⟩
    · rcases h1 with ⟨rfl,rfl⟩ | ⟨g,cap,rfl,hcap,_⟩
      · cases ua <;> simp [Builtin.append_,bY hT,sizeOf,typeInfo,hti,Builtin.lenOf,Builtin.firstCells,loadCells,loadCellsFrom,storeCells]
      · cases ua <;> simp [Builtin.append_,bY hT,sizeOf,typeInfo,hti,Builtin.lenOf,Builtin.firstCells,loadCells,loadCellsFrom,storeCells,hcap]
    · rw [dy]
      have:F.set k (es m R v E vs xs)=F:=by
        apply bZ;intro j;by_cases hj:k=j
        · subst hj; rw [bf hklt,hk]
        · rw [aU hj]
      rw [this]; exact O
  · have hpos:0 < ys.length:=by
      rcases pY ys.length with h | h
      · exact absurd (bW h) hys
      · exact h
    obtain ⟨ub,uo,hua,n5⟩:=n2 hys;subst hua;have hcells:∀j w,nw[j]? = some w→c.w.cell? ((⟨ub,uo,none⟩:Addr).add j)=some w:=fun j w hw=>by
      rw [dX];exact n5 j w hw
    have hN:(xs++ys).length=xs.length+ys.length:=aj;have hxl:=h2.len hp;have helem:∀(c':Cx) (tail:List Value),c.le c'→AR R c' (vs.take (xs.length * R.size)++nw++tail) (xs++ys):=fun c' tail hcc i x hx=>by
      have hlt:(vs.take (xs.length * R.size)).length=xs.length * R.size:=by rw [aA]; omega
      rcases aL i xs.length with hi' | hi'
      · have hm:=iO (s:=R.size) hi'
        rw [aI,gZ (by rw [hlt]; exact hm)];rw [aB hi'] at hx;have:=h2 i x hx;rw [ga,lu,show min R.size (xs.length * R.size - i * R.size)=R.size by omega];exact R.mono hcc this
      · rw [aG hi'] at hx
        have h4:=n4 _ _ hx;have hiy:=iO (s:=R.size) (List.getElem?_eq_some_iff.1 hx).1;have e:i * R.size=xs.length * R.size+(i - xs.length) * R.size:=by rw [←fY]; congr 1; omega
        have e2:(vs.take (xs.length * R.size)++(nw++tail)).drop (xs.length * R.size)=nw++tail:=by
          conv=>lhs; arg 1; rw [←hlt]
          exact jI
        rw [aI,e,←dk,e2,gZ (by rw [n1]; omega)];exact R.mono hcc h4
    have hbytes:(xs.length+ys.length) * ti.bytes≤140737488355328:=by
      rw [hz3];exact dI (Nat.mul_le_mul hfar hby) (by decide)
    have fresh:∀old,old < xs.length+ys.length→
        ∃v' c',Result.ok (α:=Value) (.slice (some ⟨c.w.heap.size,0,none⟩) (xs.length+ys.length) (grownCap c.w (xs.length+ys.length) old E)) (c.w.drew.alloc (.cells ((vs.take (xs.length * R.size)).toArray++nw.toArray++Builtin.zeroCells z.cells (grownCap c.w (xs.length+ys.length) old E - (xs.length+ys.length))) E))= .ok v' c'.w∧c.le c'∧
        ∃vs',Own c' G (F.set k (es m R v' E vs' (xs++ys)))∧OA R c' v' vs' (xs++ys):=by
      intro old ho;have hge:=GT c.w (xs.length+ys.length) old E;have hcm:grownCap c.w (xs.length+ys.length) old E≤maxLen:=xh c.w _ old E (by unfold maxLen; omega);have hd:=Cx.drew_le c;obtain ⟨c',e1,e2,e3,e4,e5⟩:=Cx.new ⟨c.w.drew,c.A,c.t⟩ ((vs.take (xs.length * R.size))++nw++(Builtin.zeroCells z.cells (grownCap c.w (xs.length+ys.length) old E - (xs.length+ys.length))).toList) E (cond m 0 ((xs++ys).length * R.size));have ea:((vs.take (xs.length * R.size))++nw++(Builtin.zeroCells z.cells (grownCap c.w (xs.length+ys.length) old E - (xs.length+ys.length))).toList).toArray=(vs.take (xs.length * R.size)).toArray++nw.toArray++Builtin.zeroCells z.cells (grownCap c.w (xs.length+ys.length) old E - (xs.length+ys.length)):=by
        apply HP; simp
      refine ⟨.slice (some ⟨c.w.heap.size,0,none⟩) (xs.length+ys.length) (grownCap c.w (xs.length+ys.length) old E),c',by rw [e1,ea],hd.le.trans e2.le,(vs.take (xs.length * R.size))++nw++(Builtin.zeroCells z.cells (grownCap c.w (xs.length+ys.length) old E - (xs.length+ys.length))).toList,Own.set (O.keep hd) k hk e2 (fun b (h:False)=>h.elim) (fun b hb=>?_) (fun b hb=>?_),hp,.inr ⟨c.w.heap.size,_,by rw [hN],by rw [hN]; exact hge,hcm,?_⟩,?_⟩
      · simp only [es,blk,aM] at hb; subst hb; exact ⟨e3,e5⟩
      · simp only [es,blk,aM] at hb; subst hb; exact .inr (ao _)
      · simp only [aj,Ht,oM,hz,n1,aA]
        have:grownCap c.w (xs.length+ys.length) old E * R.size=xs.length * R.size+ys.length * R.size+(grownCap c.w (xs.length+ys.length) old E - (xs.length+ys.length)) * R.size:=by
          rw [←fY,←fY]; congr 1; omega
        rw [this,cN hxl];exact ao _
      · exact helem c' _ (hd.le.trans e2.le)
    rcases h1 with ⟨rfl,rfl⟩ | ⟨g,cap,rfl,hnc,hcm,hcs⟩
    · have hr:=run_append_nil (P:=P) c.w t ty E ti z hT hti hz1 ⟨ub,uo,none⟩ ys.length ucap nw (by rw [n1,hz2]) hcells hpos (by simp at hfar; omega) (by have:=hbytes; simp at this; omega)
      have:=fresh 0 (by simpa using hpos);simp only [aH,iU,tw,lq,Array.empty_append,bS] at this hr⊢;rw [hr];simpa using this
    · obtain ⟨hg,hA⟩:=hon g rfl
      by_cases hroom:xs.length+ys.length≤cap
      · have hfit:xs.length * R.size+nw.length≤vs.length:=by
          rw [n1,←fY];exact dI (oo _ hroom) hcs
        have hr:=Ia (P:=P) c.w t ty E ti hT hti g xs.length cap vs.toArray hg ⟨ub,uo,none⟩ ys.length ucap nw (by rw [n1,hz2]) hcells n3 hroom (by rw [hz2]; simpa using hfit);rw [hz2] at hr;simp only at hr;obtain ⟨c',e1,e2,e3,e4⟩:=Cx.row (m:=vs.take (xs.length * R.size)++nw++vs.drop (xs.length * R.size+nw.length)) hg _ hA (fun o ho=>by
          have ho:o < xs.length * R.size:=by
            cases m
            · exact ho
            · exact absurd ho (BZ _)
          rw [aI,aB (by rw [aA]; omega),aP,af ho];rfl) (cond m 0 ((xs++ys).length * R.size)) (by
            cases m
            · simp only [es,HG]; exact oo _ (by rw [hN]; omega)
            · exact ao _)
        refine ⟨.slice (some ⟨g,0,none⟩) (xs.length+ys.length) cap,c',by rw [hr,e1],e2.le,vs.take (xs.length * R.size)++nw++vs.drop (xs.length * R.size+nw.length),Own.set O k hk e2 (fun b h=>by subst h; rfl) (fun b hb=>?_) (fun b hb=> .inl hb),hp,.inr ⟨g,cap,by rw [hN],by rw [hN]; exact hroom,hcm,?_⟩,helem c' _ e2.le⟩
        · simp only [es,blk,aM] at hb; subst hb; exact ⟨e3,e4⟩
        · simp only [aj,bj,aA]
          omega
      · have holds:∀j w,(vs.take (xs.length * R.size))[j]? = some w→c.w.cell? ((⟨g,0,none⟩:Addr).add j)=some w:=fun j w hw=>by
          rw [dX,iU,fV _ _ _ _ _ _ hg,bI];rw [aP] at hw;split at hw
          · exact hw
          · cases hw
        have hr:=run_append_grow (P:=P) c.w t ty E ti z hT hti hz1 ⟨g,0,none⟩ xs.length cap (vs.take (xs.length * R.size)) (by rw [aA,hz2]; omega) holds ⟨ub,uo,none⟩ ys.length ucap nw (by rw [n1,hz2]) hcells (by omega) (by omega) (growslice_fits (by omega) hbytes);rw [hr];exact fresh cap (by omega)
theorem BW {E t ty:TypeId} {v u:Value} {vs:List Value} {xs ys zs:List α} {z:Value} {by_:Nat} {m:Bool} (k:Nat) (O:Own c G F) (hk:F[k]? = some (es m R v E vs xs)) (h:OA R c v vs xs) (hS:Sl R c u ys) (happ:app xs ys=some zs)
    (hT:P.underlying t=some (.slice E)) (hi:(P.info? E).map (fun i=>(i.zero,i.size,i.bytes))=some (some z,R.size,by_)) (hz:z.cells.size=R.size) (hby:Nat.ble by_ 128=true):
    ∃v' c',(Builtin.append_ #[t,t] ty #[v,u]).run P c.w= .ok v' c'.w∧c.le c'∧∃vs',Own c' G (F.set k (es m R v' E vs' zs))∧OA R c' v' vs' zs:=by
  obtain ⟨nw,n1,n2,n3,n4⟩:=hS.flat;obtain ⟨ua,ucap,rfl,hu1,hu2,hu3⟩:=hS;refine vB k O hk h n1 (fun hys=>?_) n3 n4 happ hT hi hz hby;have hpos:0 < ys.length:=by
    rcases pY ys.length with h | h
    · exact absurd (bW h) hys
    · exact h
  obtain ⟨ub,uo,_,hua,_⟩:=hu3 0 ys[0] (ab hpos);subst hua;exact ⟨ub,uo,rfl,fun j w hw=>(n2 j w hw).cell⟩
end
end Go.Lt
namespace Go.Lt
section
variable {P:Program} {c c':Cx} {G:Gm} {F:List En} {α:Type} {R:Rp α} {ρ:Operand→Value} {o:Oper}
variable {n:Fr} {ops:Array Oper} {Q:Exit→(Nat→Value)→World→Prop} {rest:List Oper} {e:Nat→Value} {D:List Nat} {K:Cx→Prop} {l:List Oper} {fuel:Nat} {li:List Bool}
theorem WL.mem {X:Value→Cx→Prop} (hg:o.guard=none) (hr:∃v c',(execOp (ev n e) o).run P c.w= .ok (.value v) c'.w∧c.le c'∧X v c')
  (h:∀v c',c.le c'→X v c'→WL P ops n Q rest (upO e o.dst v) c'.w):WL P ops n Q (o :: rest) e c.w:=by
 obtain ⟨v,c',h1,h2,h3⟩:=hr;exact WL.val hg h1 (h v c' h2 h3)
theorem WL.memD {X:Cx→Prop} (hg:o.guard=none) (hr:∃c',(execOp (ev n e) o).run P c.w= .ok .skip c'.w∧c.le c'∧X c')
  (h:∀c',c.le c'→X c'→WL P ops n Q rest (upO e o.dst undef) c'.w):WL P ops n Q (o :: rest) e c.w:=by
 obtain ⟨c',h1,h2,h3⟩:=hr;exact WL.do_ hg h1 (h c' h2 h3)
theorem Go1.mem (i:Nat) {X:Value→Cx→Prop} (hi:l.toArray[i]? = some o) (hsl:eG n l=true) (hw:gE l.toArray n e o=true) (hr:∃v c',(execOp (ev n e) o).run P c.w= .ok (.value v) c'.w∧c.le c'∧X v c')
  (h:∀v c',c.le c'→X v c'→(D.contains i=true∨K c')∧AC D K P l n Q fuel (li.set i true) (upO e o.dst v) c'):Go1 D K P l n Q fuel li e c i:=by
 obtain ⟨v,c',h1,h2,h3⟩:=hr;have:=h v c' h2 h3;exact Go1.val hi hsl hw h1 h2 this.1 this.2
theorem Go1.memD (i:Nat) {X:Cx→Prop} (hi:l.toArray[i]? = some o) (hsl:eG n l=true) (hw:gE l.toArray n e o=true) (hr:∃c',(execOp (ev n e) o).run P c.w= .ok .skip c'.w∧c.le c'∧X c')
  (h:∀c',c.le c'→X c'→(D.contains i=true∨K c')∧AC D K P l n Q fuel (li.set i true) (upO e o.dst undef) c'):Go1 D K P l n Q fuel li e c i:=by
 obtain ⟨c',h1,h2,h3⟩:=hr;have:=h c' h2 h3;exact Go1.do_ hi hsl hw h1 h2 this.1 this.2
theorem Go1.callP (i:Nat) {f:FuncId} {args:Array Value} {X:Cx→Value→Prop} (hi:l.toArray[i]? = some o) (hsl:eG n l=true) (hw:gE l.toArray n e o=true)
  (hrun:(execOp (ev n e) o).run P c.w= .ok (.enter f args) c.w) (hc:Calls P f args c.w (aQ c X))
  (h:∀v c',c.le c'→X c' v→(D.contains i=true∨K c')∧AC D K P l n Q fuel (li.set i true) (upO e o.dst v) c'):Go1 D K P l n Q fuel li e c i:=Go1.call hi hsl hw hrun hc h
theorem AC.one (i:Nat) (hr:Region.ready .any l.toArray li.toArray= [i]) (h:Go1 D K P l n Q fuel li e c i):AC D K P l n Q (fuel+1) li e c:=AC.many [i] (by simp) hr ⟨h,trivial⟩
theorem Sl.form {v:Value} {xs:List α} (h:Sl R c v xs):∃a n k,v= .slice a n k:=by
 obtain ⟨a,cap,h,_⟩:=h; exact ⟨_,_,_,h⟩
theorem OA.form {v:Value} {vs:List Value} {xs:List α} (h:OA R c v vs xs):∃a n k,v= .slice a n k:=by
 rcases h.2.1 with ⟨h,_⟩ | ⟨g,cap,h,_⟩ <;> exact ⟨_,_,_,h⟩
theorem Pt.form {g:Nat} {v:Value} {p:Option Nat} (h:Pt g c v p):∃a,v= .pointer a:=by
 cases p with
 | none=>exact ⟨_,h⟩
 | some p=>obtain ⟨b,h,_⟩:=h; exact ⟨_,h⟩
theorem va (v:Value) {w:World} (h:WL P ops n Q rest (upO e o.dst v) w) (hg:o.guard=none:=by exact rfl) (hr:(execOp (ev n e) o).run P w= .ok (.value v) w:=by kernel_rfl):WL P ops n Q (o :: rest) e w:=WL.val0 hg hr h
theorem vb {t b:Bool} {w:World} (ht:t=b) (h:WL P ops n Q rest (upO e o.dst (.bool b)) w) (hg:o.guard=none:=by exact rfl) (hr:(execOp (ev n e) o).run P w= .ok (.value (.bool t)) w:=by kernel_rfl):WL P ops n Q (o :: rest) e w:=WL.valb0 ht hg hr h
theorem ps {l:List Oper} {w:World} (h:WL P l.toArray n Q rest (upO e o.dst undef) w) (hs:eG n l=true:=by kernel_rfl) (hw:gE l.toArray n e o=false:=by kernel_rfl):WL P l.toArray n Q (o :: rest) e w:=WL.pass hs hw h
theorem wn {l:List Oper} {w:World} (h:WL P l.toArray n Q ({ o with guard:=none} :: rest) e w) (hs:eG n l=true:=by kernel_rfl) (hw:gE l.toArray n e o=true:=by kernel_rfl):WL P l.toArray n Q (o :: rest) e w:=WL.want hs hw h
theorem ta (i:Nat) (v:Value) (h:AC D K P l n Q fuel (li.set i true) (upO e o.dst v) c) (hi:l.toArray[i]? = some o:=by exact rfl) (ht:tk l n li i=true:=by kernel_rfl) (hw:gE l.toArray n e o=true:=by kernel_rfl)
  (hy:∀w,(execOp (ev n e) o).run P w= .ok (.value v) w:=by intro w; kernel_rfl):AC D K P l n Q (fuel+1) li e c:=AC.take i v hi ht hw (fun c' _=>hy c'.w) h
theorem sr {b:Code} {id:Nat} {l:List Oper} {w:World} (h:WL P l.toArray n (tD (W P n b Q) Q) l e w):W P n ((Code.region id l.toArray false).seq b) Q e w:=W.seq (W.region h)
theorem wln {K:(Nat→Value)→World→Prop} {Q:Exit→(Nat→Value)→World→Prop} {w:World} (h:K e w):WL P ops n (tD K Q) [] e w:=WL.nil (nrm h)
theorem vv {o':Oper} (v:Value) {w:World} (h:WL P ops n Q rest (upO (upO e o.dst v) o'.dst v) w) (hg:o.guard=none:=by exact rfl) (hr:(execOp (ev n e) o).run P w= .ok (.value v) w:=by kernel_rfl) (hg':o'.guard=none:=by exact rfl) (hr':(execOp (ev n (upO e o.dst v)) o').run P w= .ok (.value v) w:=by kernel_rfl):WL P ops n Q (o :: o' :: rest) e w:=va v (va v h hg' hr') hg hr
theorem wa {l:List Oper} (v:Value) {w:World} (h:WL P l.toArray n Q rest (upO e o.dst v) w) (hs:eG n l=true:=by kernel_rfl) (hw:gE l.toArray n e o=true:=by kernel_rfl) (hr:(execOp (ev n e) { o with guard:=none}).run P w= .ok (.value v) w:=by kernel_rfl):WL P l.toArray n Q (o :: rest) e w:=wn (va v h rfl hr) hs hw
theorem pz {l:List Oper} {o':Oper} {w:World} (h:WL P l.toArray n Q rest (upO (upO e o.dst undef) o'.dst undef) w) (hs:eG n l=true:=by kernel_rfl) (hw:gE l.toArray n e o=false:=by kernel_rfl) (hw':gE l.toArray n (upO e o.dst undef) o'=false:=by kernel_rfl):WL P l.toArray n Q (o :: o' :: rest) e w:=ps (ps h hs hw') hs hw
theorem OA.blk {v:Value} {vs:List Value} {xs:List α} {i:Int} {x:α} (h:OA R c v vs xs) (hi:idx xs i=some x):Go.Lt.blk v=some (sb v):=by
 rcases h.2.1 with ⟨_,rfl⟩ | ⟨g,cap,rfl,_⟩
 ·have:=sO hi; simp at this; omega
 ·rfl
theorem kn {v:Value} {vs:List Value} {xs:List α} {T E:TypeId} {k:IntKind} {i:Int} {x:α} (hT:P.underlying T=some (.slice E)) (hE:(P.info? E).map (·.size)=some R.size)
  (h:OA R c v vs xs) (hi:idx xs i=some x) (w:World):(Instr.indexAt T v (.int k i)).run P w= .ok (.pointer (some ⟨sb v,i.toNat * R.size,none⟩)) w:=by
 obtain ⟨h1,h2⟩:=sO hi;rcases h.2.1 with ⟨_,rfl⟩ | ⟨g,cap,rfl,_⟩
 ·simp at h2; omega
 ·obtain ⟨ti,hti,hsz⟩:=Option.map_eq_some_iff.1 hE;simp [Instr.indexAt,asIntOf,bY hT,h1,h2,sizeOf,typeInfo,hti,hsz,sb,dX]
theorem OA.at {v:Value} {vs:List Value} {xs:List α} {i:Int} {x:α} (h:OA R c v vs xs) (hi:idx xs i=some x):∃l,R.cells c l x∧(vs.drop (i.toNat * R.size)).take R.size=l:=⟨_,h.2.2 _ _ (bi hi),rfl⟩
theorem at1 {vs l:List Value} {p n j:Nat} {u:Value} (h:(vs.drop p).take n=l) (hj:l[j]? = some u):vs[p+j]? = some u:=by
 subst h;rw [aP] at hj;split at hj
 ·rwa [bM] at hj
 ·cases hj
theorem at2 {vs l l':List Value} {p n j:Nat} (h:(vs.drop p).take n=l) (hj:(l.drop j).take l'.length=l'):(vs.drop (p+j)).take l'.length=l':=by
 subst h
 conv=>rhs; rw [←hj]
 rw [ga,dk,lu];have h1:=kW List.length hj;rw [ga,dk,lu,aA] at h1
 congr 1
 omega
theorem Own.stO {T E:TypeId} {v:Value} {vs:List Value} {xs xs':List α} {i:Int} {x x':α} {j:Nat} {us l l':List Value} {u:Value} (k:Nat) (O:Own c G F) (hx:execOp ρ o=(do Instr.storeAt T (.pointer (some ⟨sb v,i.toNat * R.size+j,none⟩)) u; pure Next.skip:Sem Next))
  (hk:F[k]? = some (es true R v E vs xs)) (h:OA R c v vs xs) (hset:jp xs i x'=some xs') (hm:(vs.drop (i.toNat * R.size)).take R.size=l) (hv:u.cells.toList=us) (hs:(P.info? T).map (·.size)=some us.length) (h1:lm us)
  (hl:Nat.ble (j+us.length) R.size=true) (hn:l.take j++us++l.drop (j+us.length)=l') (hx':R.cells c l' x'):
  ∃c',(execOp ρ o).run P c.w= .ok .skip c'.w∧c.le c'∧∃vs',Own c' G (F.set k (es true R v E vs' xs'))∧OA R c' v vs' xs':=by
 have hl:=bH hl;unfold jp at hset;split at hset
 ·rename_i hi
  cases hset;have hbk:Go.Lt.blk v=some (sb v):=by
   rcases h.2.1 with ⟨_,rfl⟩ | ⟨g,cap,rfl,_⟩
   ·exfalso; simp at hi; omega
   ·rfl
  have hp:=h.1;have hxl:=h.2.2.len hp;have hms:=iO (s:=R.size) (show i.toNat < xs.length by omega);obtain ⟨c',r1,r2,r3⟩:=stE (P:=P) (T:=T) (o:=i.toNat * R.size+j) (O.on k hk) hbk rfl hv hs h1 (by simp only [es]; omega);have hlen:(vs.take (i.toNat * R.size+j)++us++vs.drop (i.toNat * R.size+j+us.length)).length=vs.length:=by
   simp only [aj,aA,bj]; omega
  refine ⟨c',by rw [hx]; exact rs r1,r2.le,_,O.set k hk r2 (fun b hb=>by rw [hb]; exact hbk) (e':=es true R v E (vs.take (i.toNat * R.size+j)++us++vs.drop (i.toNat * R.size+j+us.length)) (xs.set i.toNat x')) r3 (fun b h=> .inl h),hp,?_,fun q y hy=>?_⟩
  ·rcases h.2.1 with ⟨_,rfl⟩ | ⟨g,cap,h2,h3,h4,h5⟩
   ·exfalso; simp at hi; omega
   ·exact .inr ⟨g,cap,by rw [cf]; exact h2,by rw [cf]; exact h3,h4,by rw [hlen]; exact h5⟩
  ·by_cases hq:q=i.toNat
   ·subst hq;rw [bf (by omega)] at hy;cases hy;have:((vs.take (i.toNat * R.size+j)++us++vs.drop (i.toNat * R.size+j+us.length)).drop (i.toNat * R.size)).take R.size=l':=by
     rw [←hn,←hm];rw [aI,oq (by rw [aA]; omega),ga];have e1:i.toNat * R.size+j - i.toNat * R.size=j:=by omega
     rw [e1,lu,cN (by omega),aI,ga,dk,Ah,Ah];have h6:((vs.drop (i.toNat * R.size)).take j).length=j:=by rw [aA,bj]; omega
     rw [h6,aT (by omega),aT (l:=us) (by omega)]
     congr 2
     rw [rh]
     congr 1
     omega
    rw [this];exact R.mono r2.le hx'
   ·rw [aU (tv hq)] at hy;have hold:=h.2.2 q y hy;have hqm:=iO (s:=R.size) (List.getElem?_eq_some_iff.1 hy).1;have:((vs.take (i.toNat * R.size+j)++us++vs.drop (i.toNat * R.size+j+us.length)).drop (q * R.size)).take R.size=(vs.drop (q * R.size)).take R.size:=by
     rcases aL q i.toNat with hlt | hge
     ·have:=iO (s:=R.size) hlt;rw [aI,gZ (by rw [aA]; omega),ga,lu,cN (by omega)]
     ·have:=iO (s:=R.size) (show i.toNat < q by omega);have h7:(vs.take (i.toNat * R.size+j)++us).length=i.toNat * R.size+j+us.length:=by rw [aj,aA]; omega
      rw [show q * R.size=(vs.take (i.toNat * R.size+j)++us).length+(q * R.size - (i.toNat * R.size+j+us.length)) by omega,←dk,jI,dk]
      congr 2
      omega
    rw [this];exact R.mono r2.le hold
 ·cases hset
theorem Own.stW {T E:TypeId} {v:Value} {vs:List Value} {xs xs':List α} {i:Int} {x':α} {us:List Value} {u:Value} (k:Nat) (O:Own c G F) (hx:execOp ρ o=(do Instr.storeAt T (.pointer (some ⟨sb v,i.toNat * R.size,none⟩)) u; pure Next.skip:Sem Next))
  (hk:F[k]? = some (es true R v E vs xs)) (h:OA R c v vs xs) (hset:jp xs i x'=some xs') (hv:u.cells.toList=us) (hs:(P.info? T).map (·.size)=some us.length) (h1:lm us) (hl:us.length=R.size) (hx':R.cells c us x'):
  ∃c',(execOp ρ o).run P c.w= .ok .skip c'.w∧c.le c'∧∃vs',Own c' G (F.set k (es true R v E vs' xs'))∧OA R c' v vs' xs':=by
 have hi:0≤i∧i < xs.length:=by
  unfold jp at hset;split at hset
  ·assumption
  ·cases hset
 have hc:=h.2.2 i.toNat xs[i.toNat] (ab (by omega));have hlen:=R.len hc;refine Own.stO (x:=xs[i.toNat]) (j:=0) (us:=us) (l':=us) k O (by rw [hx]; rfl) hk h hset rfl hv hs h1 ?_ ?_ hx'
 ·rw [iU,hl]; exact ns (ao _)
 ·rw [lq,bS,iU,Gx (by rw [hlen,hl]; exact ao _),dy]
theorem Own.app {E t ty:TypeId} {v u:Value} {vs:List Value} {xs ys zs:List α} {z:Value} {by_:Nat} {m:Bool} (k:Nat) (O:Own c G F) (hk:F[k]? = some (es m R v E vs xs)) (h:OA R c v vs xs) (hS:Sl R c u ys) (happ:app xs ys=some zs)
  (hT:P.underlying t=some (.slice E)) (hi:(P.info? E).map (fun i=>(i.zero,i.size,i.bytes))=some (some z,R.size,by_)) (hz:z.cells.size=R.size) (hby:Nat.ble by_ 128=true)
  (hx:execOp ρ o=(do pure (Next.value (←Builtin.append_ #[t,t] ty #[v,u])):Sem Next)):
  ∃v' c',(execOp ρ o).run P c.w= .ok (.value v') c'.w∧c.le c'∧∃vs',Own c' G (F.set k (es m R v' E vs' zs))∧OA R c' v' vs' zs:=by
 obtain ⟨v',c',h1,h2,h3⟩:=BW (P:=P) (t:=t) (ty:=ty) k O hk h hS happ hT hi hz hby;exact ⟨v',c',rx hx h1,h2,h3⟩
theorem Cs {i:Int} {x:α} {xs:List α} (h:rep i x=some xs):i≤far:=by
 unfold rep at h;split at h
 ·rename_i h'; exact h'.2
 ·cases h
theorem FC {i:Int} {x:α} {xs:List α} (h:rep i x=some xs):0≤i:=by
 unfold rep at h;split at h
 ·rename_i h'; exact h'.1
 ·cases h
def qB (R:Rp α) (c:Cx):List (List Value)→List α→Prop
 | [],[]=>True
 | l :: ls,x :: xs=>R.cells c l x∧qB R c ls xs
 | _,_=>False
theorem qB.len:∀{ls:List (List Value)} {xs:List α},qB R c ls xs→ls.flatten.length=xs.length * R.size
 | [],[],_=>by simp
 | l :: ls,x :: xs,h=>by
  simp only [qO,aj,az,R.len h.1,qB.len h.2,fY,mw];omega
 | [],_ :: _,h=>h.elim
 | _ :: _,[],h=>h.elim
theorem qB.get:∀{ls:List (List Value)} {xs:List α},qB R c ls xs→AR R c ls.flatten xs
 | [],[],_=>fun i x h=>by simp at h
 | l :: ls,x :: xs,h=>fun i y hy=>by
  cases i with
  | zero=>
   simp only [jH,aM] at hy;subst hy;rw [tw,mZ,qO,←R.len h.1,DJ];exact h.1
  | succ i=>
   simp only [Fa] at hy;rw [qO,fY,mw,Nat.add_comm (i * R.size),←R.len h.1,←dk,jI,R.len h.1];exact qB.get h.2 i y hy
 | [],_ :: _,h=>h.elim
 | _ :: _,[],h=>h.elim
theorem Own.newS (m:Bool) {E:TypeId} {vs:List Value} {xs:List α} {cap:Nat} (O:Own c G F) (hp:0 < R.size) (hA:AR R c vs xs) (hc:xs.length≤cap) (hm:cap≤maxLen) (hcs:cap * R.size≤vs.length)
  (hr:(execOp ρ o).run P c.w= .ok (.value (.slice (some ⟨c.w.heap.size,0,none⟩) xs.length cap)) (c.w.alloc (.cells vs.toArray E))):
  ∃v c',(execOp ρ o).run P c.w= .ok (.value v) c'.w∧c.le c'∧∃vs,Own c' G (es m R v E vs xs :: F)∧OA R c' v vs xs:=by
 obtain ⟨c',h1,h2,h3,_,h4⟩:=Cx.new c vs E (cond m 0 (xs.length * R.size));refine ⟨_,c',by rw [h1]; exact hr,h2.le,vs,O.cons h2 (fun _=>id) (fun b hb=>?_) (fun b hb=>?_),hp,.inr ⟨_,_,rfl,hc,hm,hcs⟩,hA.mono h2.le⟩
 ·simp only [es,Go.Lt.blk,aM] at hb; subst hb; exact ⟨h3,h4⟩
 ·simp only [es,Go.Lt.blk,aM] at hb; omega
theorem Own.sl (m:Bool) {E:TypeId} {ls:List (List Value)} {vs:List Value} {xs:List α} (O:Own c G F) (hp:0 < R.size) (hv:ls.flatten=vs) (hR:qB R c ls xs) (hm:Nat.ble xs.length 4294967296=true)
  (hr:(execOp ρ o).run P c.w= .ok (.value (.slice (some ⟨c.w.heap.size,0,none⟩) xs.length xs.length)) (c.w.alloc (.cells vs.toArray E))):
  ∃v c',(execOp ρ o).run P c.w= .ok (.value v) c'.w∧c.le c'∧∃vs,Own c' G (es m R v E vs xs :: F)∧OA R c' v vs xs:=by
 subst hv;have hm:=bH hm;exact Own.newS m O hp hR.get (ao _) (by unfold maxLen; omega) (by rw [hR.len]; exact ao _) hr
theorem Own.mkS (m:Bool) {E t:TypeId} {z:Value} {lz:List Value} {x:α} {xs:List α} {by_:Nat} {kl kc:IntKind} {i j:Int} (O:Own c G F) (hp:0 < R.size) (hrep:rep i x=some xs) (hij:i≤j) (hj:j≤far) (hT:P.underlying t=some (.slice E))
  (hi:(P.info? E).map (fun i=>(i.zero,i.size,i.bytes))=some (some z,R.size,by_)) (hz:z.cells.toList=lz) (hzl:lz.length=R.size) (hzx:∀c,R.cells c lz x) (hby:Nat.ble by_ 128=true)
  (hx:execOp ρ o=(do pure (Next.value (←Instr.makeSlice t (.int kl i) (.int kc j))):Sem Next)):
  ∃v c',(execOp ρ o).run P c.w= .ok (.value v) c'.w∧c.le c'∧∃vs,Own c' G (es m R v E vs xs :: F)∧OA R c' v vs xs:=by
 have hby:=bH hby;unfold rep at hrep;split at hrep
 ·rename_i h0
  cases hrep;obtain ⟨ti,hti,hzz⟩:=Option.map_eq_some_iff.1 hi;simp only [jl] at hzz;obtain ⟨hz1,hz2,hz3⟩:=hzz;unfold far at hj;have hb:(ti.bytes:Int) * j≤281474976710656:=by
   rw [hz3];have:(by_:Int) * j≤128 * 1099511627776:=Int.mul_le_mul (by omega) (by omega) (by omega) (by omega);omega
  have hr:=run_make (P:=P) c.w t E ti z hT hti hz1 kl kc i j h0.1 hij hb (by omega);have hlen:(List.replicate i.toNat x).length=i.toNat:=by simp
  have key:(madeCells z.cells (j.toNat * ti.size)).toList=(madeCells z.cells (j.toNat * ti.size)).toList:=rfl;have hget:∀q,q < j.toNat * R.size→(madeCells z.cells (j.toNat * ti.size)).toList[q]? = lz[q % R.size]? :=fun q hq=>by
   have hzs:z.cells.size=R.size:=by rw [←hzl,←hz]; simp
   have hq2:q % R.size < lz.length:=by rw [hzl]; exact HI _ hp
   have hq3:q % z.cells.size < z.cells.size:=by rw [hzs]; exact HI _ hp
   simp only [madeCells,H9,Array.toList_range,bm,hz2,dh hq,fk];rw [←hz,←hzs,GC,Array.getElem?_eq_getElem hq3];simp [getElem!_pos,hq3]
  refine Own.newS (vs:=(madeCells z.cells (j.toNat * ti.size)).toList) (cap:=j.toNat) m O hp (fun q y hy=>?_) (by rw [hlen]; omega) (by unfold maxLen; omega) (by simp [size_madeCells,hz2]) ?_
  ·have hy2:=List.getElem?_eq_some_iff.1 hy;obtain ⟨hq,hyx⟩:=hy2;simp at hyx;subst hyx;have hqi:q < i.toNat:=by simpa using hq
   have hm:=iO (s:=R.size) (show q < j.toNat by omega);have:((madeCells z.cells (j.toNat * ti.size)).toList.drop (q * R.size)).take R.size=lz:=by
    apply bZ;intro r;rw [aP];split
    ·rename_i hr
     rw [bM,hget _ (by omega),Nat.mul_comm q,Nat.mul_add_mod,Ag hr]
    ·rename_i hr
     rw [aR (by omega)]
   rw [this];exact hzx c
  ·rw [hlen];exact rx hx (by rw [hr])
 ·cases hrep
theorem Sl.cut {xs:List α} {l h m:Nat} {a:Option Addr} {cap:Nat} (hS:Sl R c (.slice a xs.length cap) xs) (h1:l≤h) (h2:h≤xs.length) (h3:h≤m) (h4:m≤cap):
  Sl R c (.slice (if m=l then a else a.map (·.add (l * R.size))) (h - l) (m - l)) ((xs.drop l).take (h - l)):=by
 obtain ⟨a',cap',hv,h5,h6,h7⟩:=hS;cases hv;have hlen:((xs.drop l).take (h - l)).length=h - l:=by rw [aA,bj]; omega
 refine ⟨_,m - l,by rw [hlen],by rw [hlen]; omega,by omega,fun i x hx=>?_⟩;rw [aP] at hx;split at hx
 ·rename_i hi
  rw [bM] at hx;obtain ⟨b,off,q,rfl,hq,hc⟩:=h7 _ _ hx;have hne:m≠l:=by omega
  refine ⟨b,off+l * R.size,q,?_,hq,fun j u hu=>?_⟩
  ·rw [ag hne]; simp [dX]
  ·have:=hc j u hu
   rwa [show off+(l+i) * R.size+j=off+l * R.size+i * R.size+j by rw [fY]; omega] at this
 ·cases hx
theorem pk {xs zs:List α} {i j:Int} (h:slc xs i j=some zs):0≤i∧i≤j∧j≤xs.length∧zs=(xs.drop i.toNat).take (j - i).toNat:=by
 unfold slc at h;split at h
 ·rename_i hh
  exact ⟨hh.1,hh.2.1,hh.2.2,by simpa using h.symm⟩
 ·cases h
theorem DR {xs zs:List α} {i j:Int} (h:slc xs i j=some zs):(zs.length:Int)=j - i:=by
 obtain ⟨h1,h2,h3,rfl⟩:=pk h;rw [aA,bj];omega
theorem nK {v:Value} {xs zs:List α} {T E:TypeId} {j:Int} {k':IntKind} (hT:P.underlying T=some (.slice E)) (hE:(P.info? E).map (·.size)=some R.size) (h:Sl R c v xs) (hz:slc xs 0 j=some zs):
  ∃v',(∀w,(Instr.sliceAt T v none (some (.int k' j)) none).run P w= .ok v' w)∧Sl R c v' zs:=by
 obtain ⟨h1,h2,h3,rfl⟩:=pk hz;obtain ⟨ti,hti,hsz⟩:=Option.map_eq_some_iff.1 hE;have hh:=h;obtain ⟨a,cap,rfl,h4,h5,h6⟩:=h;have hcut:=Sl.cut (l:=0) (h:=j.toNat) (m:=cap) hh (by omega) (by omega) (by omega) (ao _);rw [show (j - 0).toNat=j.toNat - 0 by omega];refine ⟨_,fun w=>?_,hcut⟩;have e2:0≤j∧j≤(cap:Int):=⟨by omega,by omega⟩;simp [Instr.sliceAt,bY hT,Instr.slice,Instr.sliceBounds,Instr.sliceBound,asIntOf,e2,sizeOf,typeInfo,hti]
theorem Ck {v:Value} {xs zs:List α} {T E:TypeId} {i:Int} {k:IntKind} (hT:P.underlying T=some (.slice E)) (hE:(P.info? E).map (·.size)=some R.size) (h:Sl R c v xs) (hz:slc xs i xs.length=some zs):
  ∃v',(∀w,(Instr.sliceAt T v (some (.int k i)) none none).run P w= .ok v' w)∧Sl R c v' zs:=by
 obtain ⟨h1,h2,h3,rfl⟩:=pk hz;obtain ⟨ti,hti,hsz⟩:=Option.map_eq_some_iff.1 hE;have hh:=h;obtain ⟨a,cap,rfl,h4,h5,h6⟩:=h;have hcut:=Sl.cut (l:=i.toNat) (h:=xs.length) (m:=cap) hh (by omega) (by omega) (by omega) (ao _);rw [show ((xs.length:Int) - i).toNat=xs.length - i.toNat by omega];refine ⟨_,fun w=>?_,hcut⟩;have e1:0≤i∧i≤(xs.length:Int):=⟨h1,h2⟩;simp [Instr.sliceAt,bY hT,Instr.slice,Instr.sliceBounds,Instr.sliceBound,asIntOf,e1,sizeOf,typeInfo,hti,hsz]
theorem Own.cutH {v:Value} {vs:List Value} {xs zs:List α} {T E:TypeId} {j:Int} {k':IntKind} (k:Nat) (O:Own c G F) (hk:F[k]? = some (es true R v E vs xs)) (hT:P.underlying T=some (.slice E)) (h:OA R c v vs xs) (hE:(P.info? E).map (·.size)=some R.size) (hz:slc xs 0 j=some zs):
  ∃v',(∀w,(Instr.sliceAt T v none (some (.int k' j)) none).run P w= .ok v' w)∧Own c G (F.set k (es true R v' E vs zs))∧OA R c v' vs zs:=by
 obtain ⟨h1,h2,h3,rfl⟩:=pk hz;obtain ⟨ti,hti,hsz⟩:=Option.map_eq_some_iff.1 hE;have hlen:((xs.drop (0:Int).toNat).take (j - 0).toNat).length=j.toNat:=by simp; omega
 have hAR:AR R c vs ((xs.drop (0:Int).toNat).take (j - 0).toNat):=fun i x hx=>by
  rw [aP] at hx;split at hx
  ·simp at hx; exact h.2.2 i x hx
  ·cases hx
 rcases h.2.1 with ⟨rfl,rfl⟩ | ⟨g,cap,rfl,h4,h5,h6⟩
 ·obtain rfl:j=0:=by simp at h3; omega
  refine ⟨.slice none 0 0,fun w=>?_,?_,?_⟩
  ·simp [Instr.sliceAt,bY hT,Instr.slice,Instr.sliceBounds,Instr.sliceBound,asIntOf,sizeOf,typeInfo,hti]
  ·have:F.set k (es true R (.slice none 0 0) E vs (([]:List α).drop (0:Int).toNat |>.take (0 - 0:Int).toNat))=F:=by
    apply bZ;intro q;by_cases hq:k=q
    ·subst hq; rw [bf (List.getElem?_eq_some_iff.1 hk).1,hk]; rfl
    ·rw [aU hq]
   rw [this]; exact O
  ·exact ⟨h.1,.inl ⟨rfl,by simp⟩,hAR⟩
 ·refine ⟨.slice (some ⟨g,0,none⟩) j.toNat cap,fun w=>?_,?_,h.1,.inr ⟨g,cap,by rw [hlen],by rw [hlen]; omega,h5,h6⟩,hAR⟩
  ·have e2:0≤j∧j≤(cap:Int):=⟨by omega,by omega⟩;simp [Instr.sliceAt,bY hT,Instr.slice,Instr.sliceBounds,Instr.sliceBound,asIntOf,e2,sizeOf,typeInfo,hti,Addr.add]
  ·refine O.set k hk (D:=fun _=>False) ⟨Cx.le.refl c,rfl,fun _ _ _=>⟨rfl,fun _=>tA⟩⟩ (fun b (h:False)=>h.elim) (fun b hb=>?_) (fun b hb=> .inl hb);exact O.on k hk b hb
theorem Own.cutHM {v:Value} {vs:List Value} {xs zs:List α} {T E:TypeId} {j:Int} {k' k2:IntKind} (k:Nat) (O:Own c G F) (hk:F[k]? = some (es true R v E vs xs)) (hT:P.underlying T=some (.slice E)) (h:OA R c v vs xs) (hE:(P.info? E).map (·.size)=some R.size) (hz:slc xs 0 j=some zs):
  ∃v',(∀w,(Instr.sliceAt T v none (some (.int k' j)) (some (.int k2 j))).run P w= .ok v' w)∧Own c G (F.set k (es true R v' E vs zs))∧OA R c v' vs zs:=by
 obtain ⟨h1,h2,h3,rfl⟩:=pk hz;obtain ⟨ti,hti,hsz⟩:=Option.map_eq_some_iff.1 hE;have hlen:((xs.drop (0:Int).toNat).take (j - 0).toNat).length=j.toNat:=by simp; omega
 have hAR:AR R c vs ((xs.drop (0:Int).toNat).take (j - 0).toNat):=fun i x hx=>by
  rw [aP] at hx;split at hx
  ·simp at hx; exact h.2.2 i x hx
  ·cases hx
 rcases h.2.1 with ⟨rfl,rfl⟩ | ⟨g,cap,rfl,h4,h5,h6⟩
 ·obtain rfl:j=0:=by simp at h3; omega
  refine ⟨.slice none 0 0,fun w=>?_,?_,?_⟩
  ·simp [Instr.sliceAt,bY hT,Instr.slice,Instr.sliceBounds,Instr.sliceBound,asIntOf,sizeOf,typeInfo,hti]
  ·have:F.set k (es true R (.slice none 0 0) E vs (([]:List α).drop (0:Int).toNat |>.take (0 - 0:Int).toNat))=F:=by
    apply bZ;intro q;by_cases hq:k=q
    ·subst hq; rw [bf (List.getElem?_eq_some_iff.1 hk).1,hk]; rfl
    ·rw [aU hq]
   rw [this]; exact O
  ·exact ⟨h.1,.inl ⟨rfl,by simp⟩,hAR⟩
 ·refine ⟨.slice (some ⟨g,0,none⟩) j.toNat j.toNat,fun w=>?_,?_,h.1,.inr ⟨g,j.toNat,by rw [hlen],by rw [hlen]; omega,by omega,?_⟩,hAR⟩
  ·have e2:0≤j∧j≤(cap:Int):=⟨by omega,by omega⟩;simp [Instr.sliceAt,bY hT,Instr.slice,Instr.sliceBounds,Instr.sliceBound,asIntOf,e2,sizeOf,typeInfo,hti,Addr.add];omega
  ·refine O.set k hk (D:=fun _=>False) ⟨Cx.le.refl c,rfl,fun _ _ _=>⟨rfl,fun _=>tA⟩⟩ (fun b (h:False)=>h.elim) (fun b hb=>?_) (fun b hb=> .inl hb);exact O.on k hk b hb
  ·have:=oo R.size (show j.toNat≤cap by omega);omega
theorem Pt.cs {g:Nat} {v:Value} {p:Option Nat} (h:Pt g c v p):(v= .pointer none∧p.isNone=true)∨∃b,v= .pointer (some ⟨b,0,none⟩)∧p.isNone=false:=by
 cases p with
 | none=>exact .inl ⟨h,rfl⟩
 | some p=>obtain ⟨b,h,_⟩:=h; exact .inr ⟨b,h,rfl⟩
theorem RE.cs {S T:TypeId} {v:Value} {e:Er} (h:RE S T c v e):(v= .nilIface∧e.isNil=true)∨(∃a,v= .iface S (.pointer (some a))∧e.isNil=false)∨∃b,v= .iface T (.pointer (some ⟨b,0,none⟩))∧e.isNil=false:=by
 cases e with
 | nil=>exact .inl ⟨h,rfl⟩
 | sent g=>obtain ⟨b,h,_⟩:=h; exact .inr (.inl ⟨b,h,rfl⟩)
 | fault i e=>obtain ⟨b,u,h,_⟩:=h; exact .inr (.inr ⟨b,h,rfl⟩)
theorem RE.cs3 {S T:TypeId} {v:Value} {e:Er} (h:RE S T c v e):v= .nilIface∨∃t a,v= .iface t (.pointer a):=by
 rcases h.cs with ⟨h,_⟩ | ⟨b,h,_⟩ | ⟨b,h,_⟩
 ·exact .inl h
 ·exact .inr ⟨_,_,h⟩
 ·exact .inr ⟨_,_,h⟩
def dt (G G':Gm):Prop:=∀g k,G g k≠ []→G' g k=G g k
theorem dt.refl (G:Gm):dt G G:=fun _ _ _=>rfl
theorem dt.trans {a b c:Gm} (h:dt a b) (k:dt b c):dt a c:=fun g i hi=>(k g i (by rw [h g i hi]; exact hi)).trans (h g i hi)
theorem dt.get {G G':Gm} {g k:Nat} {e:En} {l:List En} (h:dt G G') (hE:G g k=e :: l):G' g k=e :: l:=(h g k (by rw [hE]; exact H1 _ _)).trans hE
theorem dt.nil {G G':Gm} {g k:Nat} (h:dt G G') (hE:G' g k= []):G g k= []:=by
 by_cases hn:G g k= []
 ·exact hn
 ·rw [h g k hn] at hE; exact hE
theorem Kp.adds {G G':Gm} (O:Own c G' F) (h:dt G G'):Kp G [] c:=fun i e hi=>by
 cases i with
 | inl i=>simp [at_] at hi
 | inr i=>
  obtain ⟨g,k,r⟩:=i;simp only [at_] at hi;have hne:G g k≠ []:=fun e=>by rw [e] at hi; simp at hi
  rw [←h g k hne] at hi;exact O.gon rfl r hi
theorem Own.stGB {T:TypeId} {e:En} {b j:Nat} {us nw:List Value} {v:Value} {g k:Nat} {E:List En} (r:Nat) (O:Own c (fm G g k E) F) (hx:execOp ρ o=(do Instr.storeAt T (.pointer (some ⟨b,j,none⟩)) v; pure Next.skip:Sem Next)) (hr:E[r]? = some e) (hb:Go.Lt.blk e.v=some b) (hlim:e.lim=0)
  (hv:v.cells.toList=us) (hs:(P.info? T).map (·.size)=some us.length) (h1:lm us) (hl:Nat.ble (j+us.length) e.vs.length=true) (hn:e.vs.take j++us++e.vs.drop (j+us.length)=nw):
  ∃c',(execOp ρ o).run P c.w= .ok .skip c'.w∧c.le c'∧Own c' (fm G g k (E.set r ⟨e.v,e.T,nw,0⟩)) F:=by
 obtain ⟨c',h1,h2,h3⟩:=Own.stG (P:=P) r O hx (bC _ _ _ _) hr hb hlim hv hs h1 hl hn;rw [sF] at h3;exact ⟨c',h1,h2,h3⟩
def Cg (n:Nat) (ks:List Nat):Bool:=ks.all (fun i=>Nat.blt i n) && decide ks.Nodup
theorem Own.selD (n:Nat) (ks:List Nat) (O:Own c G F) (hks:Cg n ks=true) (hn:Nat.ble n F.length=true):Own c G (ks.map (fun i=>F.getD i tV)++F.drop n):=by
 simp only [Cg,aw,sv,an] at hks;have hn:=bH hn;refine Own.sel (L:=F.take n) ks (by rw [iE]; exact O) hks.2 ?_;rw [Gt];refine ek fun i hi=>?_;have h1:i < n:=by have:=hks.1 i hi; simpa [Nat.blt_eq] using this
 simp only [Function.comp,aP,af h1,av];rw [ab (by omega)];rfl
end
section
variable {P:Program} {c:Cx} {n:Fr} {e:Nat→Value} {fn:Func} {R:Ending→World→Prop}
theorem sI {t b:Nat} {T U:TypeId} {vs:List Value} (hr:fn.results= #[.cell t T]) (hv:ev n e (.tmp t)= .pointer (some ⟨b,0,none⟩))
  (hT:(P.underlying T).map (fun d=>match d with | .struct _ | .array _ _=>true | _=>false)=some true) (hs:(P.info? T).map (·.size)=some vs.length) (h:c.w.heap[b]? = some (.cells vs.toArray U (0,0)))
  (hR:R (.returned (.agg vs.toArray)) c.w):mW P fn n R .ret e c.w:=by
 have hl:=nJ (P:=P) (w:=c.w) (b:=b) (o:=0) (l:=vs) hT hs (fun j u hu=>by simp [World.cell?,h,hu]);refine ⟨.agg vs.toArray,?_,hR⟩;have ht:=gw n e t;rw [hv,ck] at ht;simp [results,hr,ht,asAddr,hl]
theorem uC {t u b:Nat} {T U:TypeId} {vs:List Value} {v:Value} (hr:fn.results= #[.cell t T,.tmp u]) (hv:ev n e (.tmp t)= .pointer (some ⟨b,0,none⟩)) (hu:ev n e (.tmp u)=v)
  (hT:(P.underlying T).map (fun d=>match d with | .struct _ | .array _ _=>true | _=>false)=some true) (hs:(P.info? T).map (·.size)=some vs.length) (h:c.w.heap[b]? = some (.cells vs.toArray U (0,0)))
  (hR:R (.returned (.tuple #[.agg vs.toArray,v])) c.w):mW P fn n R .ret e c.w:=by
 have hl:=nJ (P:=P) (w:=c.w) (b:=b) (o:=0) (l:=vs) hT hs (fun j u hu=>by simp [World.cell?,h,hu]);refine ⟨.tuple #[.agg vs.toArray,v],?_,hR⟩;have ht:=gw n e t;have hu':=gw n e u;rw [hv,ck] at ht;rw [hu,ck] at hu';simp [results,hr,ht,hu',asAddr,hl,Result.andThen]
theorem Hw {w:World} {t u s:Nat} {v v' v'':Value} (hr:fn.results= #[.tmp t,.tmp u,.tmp s]) (hv:ev n e (.tmp t)=v) (hu:ev n e (.tmp u)=v') (hs:ev n e (.tmp s)=v'')
  (h:R (.returned (.tuple #[v,v',v''])) w):mW P fn n R .ret e w:=by
 refine ⟨.tuple #[v,v',v''],?_,h⟩;have h1:=gw n e t;have h2:=gw n e u;have h3:=gw n e s;rw [hv,ck] at h1;rw [hu,ck] at h2;rw [hs,ck] at h3;simp [results,hr,h1,h2,h3]
theorem zE {s t u b:Nat} {T U:TypeId} {vs:List Value} {v v':Value} (hr:fn.results= #[.tmp s,.cell t T,.tmp u]) (hs':ev n e (.tmp s)=v') (hv:ev n e (.tmp t)= .pointer (some ⟨b,0,none⟩)) (hu:ev n e (.tmp u)=v)
  (hT:(P.underlying T).map (fun d=>match d with | .struct _ | .array _ _=>true | _=>false)=some true) (hs:(P.info? T).map (·.size)=some vs.length) (h:c.w.heap[b]? = some (.cells vs.toArray U (0,0)))
  (hR:R (.returned (.tuple #[v',.agg vs.toArray,v])) c.w):mW P fn n R .ret e c.w:=by
 have hl:=nJ (P:=P) (w:=c.w) (b:=b) (o:=0) (l:=vs) hT hs (fun j u hu=>by simp [World.cell?,h,hu]);refine ⟨.tuple #[v',.agg vs.toArray,v],?_,hR⟩;have ht:=gw n e t;have hu':=gw n e u;have hs'':=gw n e s;rw [hv,ck] at ht;rw [hu,ck] at hu';rw [hs',ck] at hs'';simp [results,hr,ht,hu',hs'',asAddr,hl,Result.andThen]
end
inductive EqP (P:Program) (xs ys:Array Value):List Field→Bool→Prop
 | nil:EqP P xs ys [] true
 | int {f:Field} {fs:List Field} {k:IntKind} {a b:Int} {r:Bool} (hn:decide (f.name= "_")=false) (hT:P.underlying f.type=some (.int k)) (hx:xs[f.offset]? = some (.int k a)) (hy:ys[f.offset]? = some (.int k b)) (h:EqP P xs ys fs r):EqP P xs ys (f :: fs) ((a==b) && r)
 | bool {f:Field} {fs:List Field} {a b:Bool} {r:Bool} (hn:decide (f.name= "_")=false) (hT:P.underlying f.type=some .bool) (hx:xs[f.offset]? = some (.bool a)) (hy:ys[f.offset]? = some (.bool b)) (h:EqP P xs ys fs r):EqP P xs ys (f :: fs) ((a==b) && r)
theorem ow {P:Program} {T:TypeId} {xs:Array Value} {o:Nat} {v:Value} (w:World) (hT:(P.underlying T).map (fun d=>match d with | .struct _ | .array _ _=>true | _=>false)=some false) (h:xs[o]? = some v):(part T xs o).run P w= .ok v w:=by
 obtain ⟨d,hd,hx⟩:=Option.map_eq_some_iff.1 hT;have hi:(isAgg T).run P w= .ok false w:=by
  have:=bY (P:=P) (w:=w) hd;simp only [isAgg,fO,this,mY]
  cases d <;> simp_all
 simp [part,hi,h,Result.andThen]
theorem EqP.run {P:Program} {xs ys:Array Value} {fs:List Field} {r:Bool} (h:EqP P xs ys fs r) (d:Nat) (w:World):(Op.eqFields (d+1) xs ys fs).run P w= .ok r w:=by
 induction h with
 | nil=>simp [Op.eqFields]
 | @int f fs k a b r hn hT hx hy _ ih=>
  have h1:=ow w (T:=f.type) (by rw [hT]; rfl) hx;have h2:=ow w (T:=f.type) (by rw [hT]; rfl) hy;have h3:=run_equalIn_int w d f.type k k a b hT;simp only [Op.eqFields,af (HB hn),fO,h1,h2,h3,mY];by_cases hab:a=b <;> simp [hab,ih]
 | @bool f fs a b r hn hT hx hy _ ih=>
  have h1:=ow w (T:=f.type) (by rw [hT]; rfl) hx;have h2:=ow w (T:=f.type) (by rw [hT]; rfl) hy;have h3:=run_equalIn_bool' w d f.type a b hT;simp only [Op.eqFields,af (HB hn),fO,h1,h2,h3,mY];by_cases hab:a=b <;> simp [hab,ih]
section
variable {P:Program} {ρ:Operand→Value} {o:Oper} {T U:TypeId} {xs ys:Array Value} {fs:Array Field} {r:Bool}
theorem Cj (ht:P.underlying T=some (.struct fs)) (hp:P.stoodInHeld T=false) (hm:P.eqGuardType P.depth T=false) (h:EqP P xs ys fs.toList r)
  (hx:execOp ρ o=(do pure (Next.value (←(do eqGuard .eql T (.const .nilIface) (.const .nilIface) (.agg xs) (.agg ys); binOp .eql T (.agg xs) (.agg ys)))):Sem Next)) (w:World):(execOp ρ o).run P w= .ok (.value (.bool r)) w:=by
 have hf:P.fieldsOf T=fs:=by simp [Program.fieldsOf,ht]
 rw [hx];refine rv ?_;simp only [fO,run_eqGuard_agg w .eql T (.const .nilIface) (.const .nilIface) xs ys hm,mY,run_eql_struct,run_equalIn_agg w 9999 T xs ys (by rw [hf]; exact ht) hp];rw [hf,h.run];rfl
end
end Go.Lt
namespace Go.Lt
abbrev T16:=Int×Int×Int×Int×Int×Int×Int×Int×Int×Int×Int×Int×Int×Int×Int×Int
def a16 (t:T16):List Int:=[t.1,t.2.1,t.2.2.1,t.2.2.2.1,t.2.2.2.2.1,t.2.2.2.2.2.1,t.2.2.2.2.2.2.1,t.2.2.2.2.2.2.2.1,t.2.2.2.2.2.2.2.2.1,t.2.2.2.2.2.2.2.2.2.1,t.2.2.2.2.2.2.2.2.2.2.1,t.2.2.2.2.2.2.2.2.2.2.2.1,t.2.2.2.2.2.2.2.2.2.2.2.2.1,t.2.2.2.2.2.2.2.2.2.2.2.2.2.1,t.2.2.2.2.2.2.2.2.2.2.2.2.2.2.1,t.2.2.2.2.2.2.2.2.2.2.2.2.2.2.2]
def l16 (l:List Int):T16:=(l.getD 0 0,l.getD 1 0,l.getD 2 0,l.getD 3 0,l.getD 4 0,l.getD 5 0,l.getD 6 0,l.getD 7 0,l.getD 8 0,l.getD 9 0,l.getD 10 0,l.getD 11 0,l.getD 12 0,l.getD 13 0,l.getD 14 0,l.getD 15 0)
theorem nq (t:T16):(a16 t).length=16:=rfl
theorem EW {l:List Int} (h:l.length=16):a16 (l16 l)=l:=by
 match l,h with
 | [_,_,_,_,_,_,_,_,_,_,_,_,_,_,_,_],_=>rfl
def Aa (t:T16) (i x:Int):T16:=l16 ((a16 t).set i.toNat x)
theorem zm (t:T16) (i x:Int):a16 (Aa t i x)=(a16 t).set i.toNat x:=EW (by rw [cf]; rfl)
theorem DV {α:Type} (pre l post:List α) {m:Nat} (x:α) (h:m < l.length):(pre++l++post).take (pre.length+m * 1)++ [x]++(pre++l++post).drop (pre.length+m * 1+1)=pre++l.set m x++post:=by
 rw [Hi,aI pre l post,Ah,List.drop_append,aT (by omega),Gx (l:=pre) (by omega),bS];rw [show pre.length+m - pre.length=m by omega,show pre.length+m+1 - pre.length=m+1 by omega];rw [fZ (by omega),oq (by omega)];rw [List.set_eq_take_append_cons_drop,af h];simp only [aI,da,bS]
theorem GJ {k:IntKind} {t y:T16} {i x z:Int} (h:idx (a16 t) i=some z) (hy:some (Aa t i x)=some y) (pre post:List Value):
  (pre++(a16 t).map (Value.int k)++post).take (pre.length+i.toNat * 1)++ [.int k x]++(pre++(a16 t).map (Value.int k)++post).drop (pre.length+i.toNat * 1+1)=pre++(a16 y).map (Value.int k)++post:=by
 have hl:=sO h;rw [nq] at hl;cases hy;rw [DV _ _ _ _ (by rw [eF,nq]; omega),zm,List.map_set]
theorem He {i z:Int} {t:T16} (h:idx (a16 t) i=some z) {p n:Nat} (hn:p+16≤n):Nat.ble (p+i.toNat * 1+1) n=true:=by
 have hl:=sO h;rw [nq] at hl;exact ns (by omega)
section
variable {P:Program} {c c':Cx} {G:Gm} {F:List En} {ρ:Operand→Value} {o:Oper}
theorem Own.back {g k:Nat} {E E':List En} (O:Own c (fm G g k E') F) (hE:G g k=E) (h:E'=E):Own c G F:=by
 subst h;have e:fm G g k E'=G:=by
  funext a b
  simp only [fm];split
  ·rename_i hh
   obtain ⟨rfl,rfl⟩:=hh;exact hE.symm
  ·rfl
 rwa [e] at O
theorem Own.appSrc {α:Type} {R:Rp α} {E t ty:TypeId} {v:Value} {vs:List Value} {xs ys zs:List α} {z:Value} {by_:Nat} {m:Bool} {ua:Option Addr} {ucap:Nat} {nw:List Value} (k:Nat) (O:Own c G F) (hk:F[k]? = some (es m R v E vs xs)) (h:OA R c v vs xs)
  (n1:nw.length=ys.length * R.size) (n2:ys≠ []→∃ub uo,ua=some ⟨ub,uo,none⟩∧∀j w,nw[j]? = some w→c.w.cell? ⟨ub,uo+j,none⟩=some w) (n3:∀w∈nw,w.oneCell'=true) (n4:∀i x,ys[i]? = some x→R.cells c ((nw.drop (i * R.size)).take R.size) x) (happ:Go.Lt.app xs ys=some zs)
  (hT:P.underlying t=some (.slice E)) (hi:(P.info? E).map (fun i=>(i.zero,i.size,i.bytes))=some (some z,R.size,by_)) (hz:z.cells.size=R.size) (hby:Nat.ble by_ 128=true)
  (hx:execOp ρ o=(do pure (Next.value (←Builtin.append_ #[t,t] ty #[v,.slice ua ys.length ucap])):Sem Next)):
  ∃v' c',(execOp ρ o).run P c.w= .ok (.value v') c'.w∧c.le c'∧∃vs',Own c' G (F.set k (es m R v' E vs' zs))∧OA R c' v' vs' zs:=by
 obtain ⟨v',c',h1,h2,h3⟩:=vB (P:=P) (t:=t) (ty:=ty) (ucap:=ucap) k O hk h n1 n2 n3 n4 happ hT hi hz hby;exact ⟨v',c',rx hx h1,h2,h3⟩
theorem zB {T E:TypeId} {n sz b j:Nat} {k:IntKind} {i:Int} (hT:P.underlying T=some (.array n E)) (hE:(P.info? E).map (·.size)=some sz) (h0:0≤i) (h1:i < (n:Int)) (w:World):
  (Instr.indexAt T (.pointer (some ⟨b,j,none⟩)) (.int k i)).run P w= .ok (.pointer (some ⟨b,j+i.toNat * sz,none⟩)) w:=by
 obtain ⟨ti,hti,hsz⟩:=Option.map_eq_some_iff.1 hE;simp [Instr.indexAt,asIntOf,Instr.sureAddr,bY hT,h0,h1,sizeOf,typeInfo,hti,hsz,dX]
theorem Cl {T E:TypeId} {n b j:Nat} {k:IntKind} {i:Int} (hT:P.underlying T=some (.array n E)) (hE:((P.info? E).map (·.size)).isSome=true) (h0:0≤i) (h1:i≤(n:Int)) (w:World):
  (Instr.sliceAt T (.pointer (some ⟨b,j,none⟩)) none (some (.int k i)) none).run P w= .ok (.slice (some ⟨b,j,none⟩) i.toNat n) w:=by
 cases hti:P.info? E with
 | none=>rw [hti] at hE; cases hE
 | some ti=>
  have e2:0≤i∧i≤(n:Int):=⟨h0,h1⟩;simp [Instr.sliceAt,Instr.sureAddr,bY hT,Instr.sliceBounds,Instr.sliceBound,asIntOf,e2,sizeOf,typeInfo,hti,dX]
theorem Fk {k:IntKind} {t:T16} {i:Int} {xs:List Int} (h:slc (a16 t) 0 i=some xs) (pre post:List Value) (m:Nat) (u:Value) (hu:(xs.map (Value.int k))[m]? = some u):(pre++(a16 t).map (Value.int k)++post)[pre.length+m]? = some u:=by
 obtain ⟨h1,h2,h3,rfl⟩:=pk h;rw [nq] at h3;rw [bm] at hu;simp only [Int.toNat_zero,mZ,aP] at hu;split at hu
 ·rename_i hm
  have hm16:m < 16:=by omega
  rw [aI,aG (by omega),show pre.length+m - pre.length=m by omega,aB (by rw [eF,nq]; exact hm16),bm];exact hu
 ·cases hu
theorem Ca {t:T16} {i:Int} {xs:List Int} (h:slc (a16 t) 0 i=some xs):xs.length=i.toNat:=by
 have:=DR h;omega
theorem qB.map {α:Type} {R:Rp α} {c:Cx} (f:α→List Value) (h:∀x,R.cells c (f x) x):∀l:List α,qB R c (l.map f) l
 | []=>trivial
 | x :: l=>⟨h x,qB.map f h l⟩
def jW (k:IntKind) (a b:Int):Int:=k.wrap ((BitVec.ofInt k.bits a &&& BitVec.ofInt k.bits b).toNat:Int)
def nb (k:IntKind) (a b:Int):Int:=k.wrap ((BitVec.ofInt k.bits a ||| BitVec.ofInt k.bits b).toNat:Int)
def shn (n:Int):Option Nat:=if n < 0 then none else some n.toNat
theorem Cd {n:Int} {m:Nat} (h:shn n=some m):¬n < 0∧n.toNat=m:=by
 unfold shn at h;split at h
 ·cases h
 ·rename_i hn; exact ⟨hn,by simpa using h⟩
theorem DX {k k':IntKind} {a b:Int} {m:Nat} (h:shn b=some m) (hx:execOp ρ o=(do pure (Next.value (←Op.shift .shl k a k' b)):Sem Next)) (w:World):(execOp ρ o).run P w= .ok (.value (.int k (k.wrap (a * 2 ^ (min m k.bits))))) w:=by
 obtain ⟨h1,h2⟩:=Cd h;rw [hx];exact rv (by simp [Op.shift,h1,h2])
end
end Go.Lt
namespace Go.Lt
section
variable {P:Program} {c c':Cx} {G:Gm} {F:List En} {ρ:Operand→Value} {o:Oper}
theorem Own.frzB {b:Nat} {T:TypeId} {vs:List Value} (k:Nat) (O:Own c G F) (hk:F[k]? = some ⟨.pointer (some ⟨b,0,none⟩),T,vs,0⟩):
  ∃c',c'.w=c.w∧c.le c'∧Own c' G (F.set k ⟨.pointer (some ⟨b,0,none⟩),T,vs,vs.length⟩)∧∀j u,vs[j]? = some u→Im c' b (0+j) u:=by
 have hon:=O.on k hk;obtain ⟨hh,hA⟩:=hon b rfl
 let c':Cx:=⟨c.w,fun b' o=>c.A b' o∧¬(b'=b∧o < vs.length),c.t⟩
 have hle:c.le c':=⟨rfl,rfl,ao _,fun _ _ _ h=>⟨rfl,fun h2=>h h2.1⟩,fun _ _ _=>rfl,fun _ _ _=>rfl,fun _ _ _ h=>h⟩;have hb:c.but (fun b'=>b'=b) c':=⟨hle,rfl,fun b' hb' hd=>⟨rfl,fun o=>⟨fun h=>h.1,fun h=>⟨h,fun h2=>hd h2.1⟩⟩⟩⟩;refine ⟨c',rfl,hle,O.set k hk hb (fun b' h=>by rw [h]; rfl) (fun b' hb'=>?_) (fun b' h=> .inl h),fun j u hu=>⟨hon.lt rfl,fun hA'=>?_,?_⟩⟩
 ·simp only [blk,aM] at hb';subst hb';refine ⟨hh,fun o=>?_⟩;show (c.A b o∧¬(b=b∧o < vs.length))↔vs.length≤o;rw [hA o];simp
 ·have:=(List.getElem?_eq_some_iff.1 hu).1;exact hA'.2 ⟨rfl,by omega⟩
 ·show c.w.cell? _=_;rw [fV _ _ _ _ _ _ hh,bI,iU,hu]
def DU (s:ByteArray) (i:Int):Option Int:=if 0≤i then (s[i.toNat]?).map (fun b=>(b.toNat:Int)) else none
theorem zA {T:TypeId} {s:ByteArray} {k:IntKind} {i x:Int} (hT:P.underlying T=some .string) (h:DU s i=some x) (w:World):(Instr.index T (.string s) (.int k i)).run P w= .ok (.int .u8 x) w:=by
 unfold DU at h;split at h
 ·rename_i h0
  obtain ⟨b,hb,rfl⟩:=Option.map_eq_some_iff.1 h;simp [Instr.index,asIntOf,bY hT,h0,hb]
 ·cases h
end
section
variable {P:Program} {c:Cx} {n:Fr} {e:Nat→Value} {fn:Func} {R:Ending→World→Prop}
end
section
variable {D:List Nat} {K:Cx→Prop} {P:Program} {l:List Oper} {n:Fr} {Q:Exit→(Nat→Value)→World→Prop} {fuel:Nat} {li:List Bool} {e:Nat→Value} {c:Cx} {o:Oper}
theorem Go1.late (i:Nat) (v:Value) (hi:l.toArray[i]? = some o) (hsl:eG n l=true) (hw:gE l.toArray n e o=true) (hr:(execOp (ev n e) o).run P c.w= .ok (.value v) c.w)
  (hk:D.contains i=true) (h:AC D K P l n Q fuel (li.set i true) (upO e o.dst v) c):Go1 D K P l n Q fuel li e c i:=Go1.val hi hsl hw hr (Cx.le.refl c) (.inl hk) h
end
end Go.Lt
namespace Go.Lt
theorem pt {c c':Cx} (k:c.le c':=by repeat (first | assumption | exact Cx.le.refl _ | refine Cx.le.trans ?_ (by assumption))):c.le c':=k
section
variable {c c':Cx} {α:Type} {R:Rp α}
theorem Sl.m {v:Value} {xs:List α} (h:Sl R c v xs) (k:c.le c':=by repeat (first | assumption | refine Cx.le.trans ?_ (by assumption))):Sl R c' v xs:=h.mono k
theorem OA.m {v:Value} {vs:List Value} {xs:List α} (h:OA R c v vs xs) (k:c.le c':=by repeat (first | assumption | refine Cx.le.trans ?_ (by assumption))):OA R c' v vs xs:=h.mono k
theorem Pt.m {g:Nat} {v:Value} {p:Option Nat} (h:Pt g c v p) (k:c.le c':=by repeat (first | assumption | refine Cx.le.trans ?_ (by assumption))):Pt g c' v p:=h.mono k
theorem RE.m {S T:TypeId} {v:Value} {e:Er} (h:RE S T c v e) (k:c.le c':=by repeat (first | assumption | refine Cx.le.trans ?_ (by assumption))):RE S T c' v e:=h.mono k
theorem mm {b o:Nat} {L:List Value} (h:∀j u,L[j]? = some u→Im c b (o+j) u) (k:c.le c':=by repeat (first | assumption | refine Cx.le.trans ?_ (by assumption))):∀j u,L[j]? = some u→Im c' b (o+j) u:=fun j u hu=>(h j u hu).mono k
theorem tm {g k b:Nat} (h:c.t g k=some b) (l:c.le c':=by repeat (first | assumption | refine Cx.le.trans ?_ (by assumption))):c'.t g k=some b:=l.t _ _ _ h
end
theorem yA {e:Nat→Value}:∀{l:List (Nat×Value)},l.map (fun x=>e x.1)=l.map (fun x=>x.2)→holds e l
 | [],_=>trivial
 | (t,v) :: l,h=>by
  simp only [eB,List.cons.injEq] at h;exact ⟨h.1,yA h.2⟩
theorem us {e:Nat→Value} {l:List (Nat×Value)} (h:l.map (fun x=>e x.1)=l.map (fun x=>x.2):=by kernel_rfl):e=ups e l:=cm (yA h)
abbrev Jn (c0:Cx) (q:Cx→List (Nat×Value)→Prop) (e:Nat→Value) (w:World):Prop:=∃(c:Cx) (g:Nat→Value) (l:List (Nat×Value)),w=c.w∧c0.le c∧e=ups g l∧q c l
theorem jn {c0:Cx} {q:Cx→List (Nat×Value)→Prop} {e:Nat→Value} {l:List (Nat×Value)} (c:Cx) (h:q c l) (k:c0.le c:=by repeat (first | assumption | exact Cx.le.refl _ | refine Cx.le.trans ?_ (by assumption))) (u:l.map (fun x=>e x.1)=l.map (fun x=>x.2):=by kernel_rfl):Jn c0 q e c.w:=⟨c,e,l,rfl,k,us u,h⟩
theorem qq {c0:Cx} {X:Cx→Value→Prop} {v:Value} (c:Cx) (h:X c v) (k:c0.le c:=by repeat (first | assumption | exact Cx.le.refl _ | refine Cx.le.trans ?_ (by assumption))):aQ c0 X (.returned v) c.w:=⟨v,c,rfl,rfl,k,h⟩
theorem bn {α β:Type} {x:Option α} {f:α→Option β} {r:β} {C:Prop} (H:x.bind f=some r) (k:∀a,x=some a→f a=some r→C):C:=by
 obtain ⟨a,h1,h2⟩:=bs H;exact k a h1 h2
theorem si {α:Type} {a b:α} (h:some a=some b):a=b:=aq h
theorem bo (b:Bool):b=true∨b=false:=fR b
theorem Own.sD {c:Cx} {G:Gm} {F:List En} (O:Own c G F) (n:Nat) (ks:List Nat) (h1:Cg n ks=true:=by kernel_rfl) (h2:Nat.ble n F.length=true:=by kernel_rfl):Own c G (ks.map (fun i=>F.getD i tV)++F.drop n):=O.selD n ks h1 h2
section
variable {P:Program} {c c':Cx} {G:Gm} {F:List En} {α:Type} {R:Rp α} {ρ:Operand→Value} {o:Oper} {fn:Func}
variable {n:Fr} {ops:Array Oper} {Q:Exit→(Nat→Value)→World→Prop} {rest:List Oper} {e:Nat→Value} {D:List Nat} {K:Cx→Prop} {l:List Oper} {fuel:Nat} {li:List Bool} {a b:Code} {w:World}
def val:Result Next→Value
 | .ok (.value v) _=>v
 | _=>undef
theorem vx {s:Sem Value} {v:Value} (h0:s.run P w= .ok v w) (h:WL P ops n Q rest (upO e o.dst v) w) (hg:o.guard=none:=by exact rfl) (hx:execOp (ev n e) o=(do pure (Next.value (←s)):Sem Next):=by kernel_rfl):WL P ops n Q (o :: rest) e w:=WL.val0 hg (rx hx h0) h
theorem vr (v:Value) (hr:(execOp (ev n e) o).run P w= .ok (.value v) w) (h:WL P ops n Q rest (upO e o.dst v) w) (hg:o.guard=none:=by exact rfl):WL P ops n Q (o :: rest) e w:=WL.val0 hg hr h
theorem cl {f:FuncId} {args:Array Value} {X:Cx→Value→Prop} (hc:Calls P f args c.w (aQ c X)) (h:∀v c',c.le c'→X c' v→WL P ops n Q rest (upO e o.dst v) c'.w) (hg:o.guard=none:=by exact rfl) (hr:(execOp (ev n e) o).run P c.w= .ok (.enter f args) c.w:=by kernel_rfl):WL P ops n Q (o :: rest) e c.w:=WL.callP hg hr hc h
theorem me {X:Value→Cx→Prop} (hr:∃v c',(execOp (ev n e) o).run P c.w= .ok (.value v) c'.w∧c.le c'∧X v c') (h:∀v c',c.le c'→X v c'→WL P ops n Q rest (upO e o.dst v) c'.w) (hg:o.guard=none:=by exact rfl):WL P ops n Q (o :: rest) e c.w:=WL.mem hg hr h
theorem md {X:Cx→Prop} (hr:∃c',(execOp (ev n e) o).run P c.w= .ok .skip c'.w∧c.le c'∧X c') (h:∀c',c.le c'→X c'→WL P ops n Q rest (upO e o.dst undef) c'.w) (hg:o.guard=none:=by exact rfl):WL P ops n Q (o :: rest) e c.w:=WL.memD hg hr h
theorem cn {α:Type} {t:Bool} {x y:Option α} {r:α} {cd:Operand} (H:(if t=true then x else y)=some r) (h1:t=true→x=some r→W P n a Q e w) (h2:t=false→y=some r→W P n b Q e w) (hc:ev n e cd= .bool t:=by kernel_rfl):W P n (.cond cd a b) Q e w:=
 W.cond hc (fun h=>h1 h (it h H)) (fun h=>h2 h (ie h H))
theorem lp {σ τ:Type} {step:σ→Option (σ ⊕ τ)} {fuel:Nat} {s:σ} {t:τ} (H:cO fuel step s=some t) (F:σ→(Nat→Value)→World→Prop) (Out:τ→Exit→(Nat→Value)→World→Prop)
  (hb:∀s x e w,step s=some x→F s e w→W P n a (lpQ F Out x) e w) (h0:F s e w) (hQ:∀x e w,Out t x e w→Q x e w):W P n (.loop a) Q e w:=W.loop F Out hb H h0 hQ
theorem en {P:Program} {f:FuncId} {fn:Func} {code:Code} {n:Nat} {l:List Value} {w:World} {R:Ending→World→Prop} (hf:P.funcs[f]? = some fn) (hb:fn.body=some code) (hn:fn.ntmps=n) (h:W P ⟨n,[],none⟩ code (mW P fn ⟨n,[],none⟩ R) (ar l) w) (hl:Nat.ble l.length n=true:=by rfl):Calls P f l.toArray w R:=enter hf hb hn hl h
theorem tx (i:Nat) {s:Sem Value} {v:Value} (h0:∀c',c.le c'→s.run P c'.w= .ok v c'.w) (h:AC D K P l n Q fuel (li.set i true) (upO e o.dst v) c) (hi:l.toArray[i]? = some o:=by exact rfl) (ht:tk l n li i=true:=by kernel_rfl) (hw:gE l.toArray n e o=true:=by kernel_rfl)
  (hx:execOp (ev n e) o=(do pure (Next.value (←s)):Sem Next):=by kernel_rfl):AC D K P l n Q (fuel+1) li e c:=AC.take i v hi ht hw (fun c' k=>rx hx (h0 c' k)) h
theorem tkx (i:Nat) {s:Sem Value} {v:Value} (p:K c) (h0:∀c',c.le c'→K c'→s.run P c'.w= .ok v c'.w) (h:AC D K P l n Q fuel (li.set i true) (upO e o.dst v) c) (hi:l.toArray[i]? = some o:=by exact rfl) (ht:tk l n li i=true:=by kernel_rfl) (hB:okB l.toArray li i D=true:=by kernel_rfl)
  (hw:gE l.toArray n e o=true:=by kernel_rfl) (hx:execOp (ev n e) o=(do pure (Next.value (←s)):Sem Next):=by kernel_rfl):AC D K P l n Q (fuel+1) li e c:=AC.takeK i v p hi ht hB hw (fun c' k q=>rx hx (h0 c' k q)) h
theorem tp (i:Nat) (h:AC D K P l n Q fuel (li.set i true) (upO e o.dst undef) c) (hi:l.toArray[i]? = some o:=by exact rfl) (ht:tk l n li i=true:=by kernel_rfl) (hw:gE l.toArray n e o=false:=by kernel_rfl):AC D K P l n Q (fuel+1) li e c:=AC.pass i hi ht hw h
theorem dn (h:Q .normal e c.w) (hr:Region.ready .any l.toArray li.toArray= []:=by kernel_rfl):AC D K P l n Q fuel li e c:=AC.done hr h
theorem o1 (i:Nat) (h:Go1 D K P l n Q fuel li e c i) (hr:Region.ready .any l.toArray li.toArray= [i]:=by kernel_rfl):AC D K P l n Q (fuel+1) li e c:=AC.one i hr h
theorem mn2 (i j:Nat) (h1:Go1 D K P l n Q fuel li e c i) (h2:Go1 D K P l n Q fuel li e c j) (hr:Region.ready .any l.toArray li.toArray= [i,j]:=by kernel_rfl):AC D K P l n Q (fuel+1) li e c:=AC.many [i,j] (by simp) hr ⟨h1,h2,trivial⟩
theorem gm (i:Nat) {X:Value→Cx→Prop} (hr:∃v c',(execOp (ev n e) o).run P c.w= .ok (.value v) c'.w∧c.le c'∧X v c') (h:∀v c',c.le c'→X v c'→(D.contains i=true∨K c')∧AC D K P l n Q fuel (li.set i true) (upO e o.dst v) c')
  (hi:l.toArray[i]? = some o:=by exact rfl) (hsl:eG n l=true:=by kernel_rfl) (hw:gE l.toArray n e o=true:=by kernel_rfl):Go1 D K P l n Q fuel li e c i:=Go1.mem i hi hsl hw hr h
theorem gD (i:Nat) {X:Cx→Prop} (hr:∃c',(execOp (ev n e) o).run P c.w= .ok .skip c'.w∧c.le c'∧X c') (h:∀c',c.le c'→X c'→(D.contains i=true∨K c')∧AC D K P l n Q fuel (li.set i true) (upO e o.dst undef) c')
  (hi:l.toArray[i]? = some o:=by exact rfl) (hsl:eG n l=true:=by kernel_rfl) (hw:gE l.toArray n e o=true:=by kernel_rfl):Go1 D K P l n Q fuel li e c i:=Go1.memD i hi hsl hw hr h
theorem gc (i:Nat) {f:FuncId} {args:Array Value} {X:Cx→Value→Prop} (hc:Calls P f args c.w (aQ c X)) (h:∀v c',c.le c'→X c' v→(D.contains i=true∨K c')∧AC D K P l n Q fuel (li.set i true) (upO e o.dst v) c')
  (hi:l.toArray[i]? = some o:=by exact rfl) (hsl:eG n l=true:=by kernel_rfl) (hw:gE l.toArray n e o=true:=by kernel_rfl) (hr:(execOp (ev n e) o).run P c.w= .ok (.enter f args) c.w:=by kernel_rfl):Go1 D K P l n Q fuel li e c i:=Go1.callP i hi hsl hw hr hc h
theorem gl (i:Nat) {s:Sem Value} {v:Value} (h0:s.run P c.w= .ok v c.w) (h:AC D K P l n Q fuel (li.set i true) (upO e o.dst v) c)
  (hi:l.toArray[i]? = some o:=by exact rfl) (hsl:eG n l=true:=by kernel_rfl) (hw:gE l.toArray n e o=true:=by kernel_rfl) (hx:execOp (ev n e) o=(do pure (Next.value (←s)):Sem Next):=by kernel_rfl) (hk:D.contains i=true:=by kernel_rfl):Go1 D K P l n Q fuel li e c i:=Go1.late i v hi hsl hw (rx hx h0) hk h
theorem rD (D:List Nat) (K:Cx→Prop) {id:Nat} (O:Own c G F) (h:∀c',c.le c'→Own c' G F→AC D K P l n Q l.length (List.replicate l.length false) e c') (hm:P.follows .mixedOrders=true:=by kernel_rfl):W P n (.region id l.toArray true) Q e c.w:=W.regionD D K O hm h
theorem l1 {T:TypeId} {b o:Nat} {v:Value} {d:TypeDesc} (hT:P.underlying T=some d) (h:Im c b o v) (hd:(match d with | .struct _ | .array _ _=>false | _=>true)=true:=by rfl):(Instr.loadAt T (.pointer (some ⟨b,o,none⟩))).run P c.w= .ok v c.w:=ic hT hd h
theorem lN (T:TypeId) {b o:Nat} {l:List Value} (h:∀j u,l[j]? = some u→Im c b (o+j) u) (hT:(P.underlying T).map (fun d=>match d with | .struct _ | .array _ _=>true | _=>false)=some true:=by kernel_rfl) (hs:(P.info? T).map (·.size)=some l.length:=by kernel_rfl):
  (Instr.loadAt T (.pointer (some ⟨b,o,none⟩))).run P c.w= .ok (.agg l.toArray) c.w:=wm hT hs h
theorem le1 (j:Nat) {T:TypeId} {e:En} {b:Nat} {v:Value} {d:TypeDesc} (hT:P.underlying T=some d) (h:e.on c) (hd:(match d with | .struct _ | .array _ _=>false | _=>true)=true:=by rfl) (hb:blk e.v=some b:=by rfl) (hj:e.vs[j]? = some v:=by rfl):
  (Instr.loadAt T (.pointer (some ⟨b,j,none⟩))).run P c.w= .ok v c.w:=my hT hd h hb hj
theorem leN (T j:Nat) (l:List Value) {e:En} {b:Nat} (h:e.on c) (hT:(P.underlying T).map (fun d=>match d with | .struct _ | .array _ _=>true | _=>false)=some true:=by kernel_rfl) (hs:(P.info? T).map (·.size)=some l.length:=by kernel_rfl) (hb:blk e.v=some b:=by rfl) (hl:(e.vs.drop j).take l.length=l:=by rfl):
  (Instr.loadAt T (.pointer (some ⟨b,j,none⟩))).run P c.w= .ok (.agg l.toArray) c.w:=FO hT hs h hb hl
theorem ix {v:Value} {xs:List α} {T E:TypeId} {i:Int} {x:α} (hT:P.underlying T=some (.slice E)) (h:Sl R c v xs) (hi:idx xs i=some x) (hE:(P.info? E).map (·.size)=some R.size:=by kernel_rfl):
  (Instr.indexAt T v (.int .i64 i)).run P w= .ok (.pointer (some ⟨sb v,so v+i.toNat * R.size,none⟩)) w:=jL hT hE h hi w
theorem ixO {v:Value} {vs:List Value} {xs:List α} {T E:TypeId} {i:Int} {x:α} (hT:P.underlying T=some (.slice E)) (h:OA R c v vs xs) (hi:idx xs i=some x) (hE:(P.info? E).map (·.size)=some R.size:=by kernel_rfl):
  (Instr.indexAt T v (.int .i64 i)).run P w= .ok (.pointer (some ⟨sb v,i.toNat * R.size,none⟩)) w:=kn hT hE h hi w
theorem ln {v:Value} {xs:List α} {T E:TypeId} (ty:TypeId) (hT:P.underlying T=some (.slice E)) (h:Sl R c v xs):(Builtin.len_ #[T] ty #[v]).run P w= .ok (.int .i64 (xs.length:Int)) w:=qd hT h w
theorem lnO {v:Value} {vs:List Value} {xs:List α} {T E:TypeId} (ty:TypeId) (hT:P.underlying T=some (.slice E)) (h:OA R c v vs xs):(Builtin.len_ #[T] ty #[v]).run P w= .ok (.int .i64 (xs.length:Int)) w:=rB hT h w
theorem bx (T:TypeId) (vs:List Value) (O:Own c G F) (hr:(execOp ρ o).run P c.w= .ok (.value (.pointer (some ⟨c.w.heap.size,0,none⟩))) (c.w.alloc (.cells vs.toArray T)):=by kernel_rfl):
  ∃v c',(execOp ρ o).run P c.w= .ok (.value v) c'.w∧c.le c'∧∃b,v= .pointer (some ⟨b,0,none⟩)∧Own c' G F∧∀j u,vs[j]? = some u→Im c' b (0+j) u:=Own.bx O hr
theorem al (T:TypeId) (vs:List Value) (O:Own c G F) (hr:(execOp ρ o).run P c.w= .ok (.value (.pointer (some ⟨c.w.heap.size,0,none⟩))) (c.w.alloc (.cells vs.toArray T)):=by kernel_rfl):
  ∃v c',(execOp ρ o).run P c.w= .ok (.value v) c'.w∧c.le c'∧∃b,v= .pointer (some ⟨b,0,none⟩)∧Own c' G (⟨.pointer (some ⟨b,0,none⟩),T,vs,0⟩ :: F):=Own.al O hr
theorem sA (T:TypeId) (us:List Value) {e:En} {b:Nat} (k:Nat) (O:Own c G F) (h1:lm us) (hx:execOp ρ o=(do Instr.storeAt T (.pointer (some ⟨b,0,none⟩)) (.agg us.toArray); pure Next.skip:Sem Next):=by kernel_rfl) (hk:F[k]? = some e:=by rfl) (hb:blk e.v=some b:=by rfl) (hlim:e.lim=0:=by rfl)
  (hs:(P.info? T).map (·.size)=some us.length:=by kernel_rfl) (hl:Nat.ble (0+us.length) e.vs.length=true:=by rfl) (hn:e.vs.take 0++us++e.vs.drop (0+us.length)=us:=by rfl):∃c',(execOp ρ o).run P c.w= .ok .skip c'.w∧c.le c'∧Own c' G (F.set k ⟨e.v,e.T,us,0⟩):=Own.st k O hx hk hb hlim rfl hs h1 hl hn
theorem sB (T j:Nat) (us nw:List Value) {e:En} {b:Nat} (k:Nat) (O:Own c G F) (h1:lm us) (hx:execOp ρ o=(do Instr.storeAt T (.pointer (some ⟨b,j,none⟩)) (.agg us.toArray); pure Next.skip:Sem Next):=by kernel_rfl) (hk:F[k]? = some e:=by rfl) (hb:blk e.v=some b:=by rfl) (hlim:e.lim=0:=by rfl)
  (hs:(P.info? T).map (·.size)=some us.length:=by kernel_rfl) (hl:Nat.ble (j+us.length) e.vs.length=true:=by rfl) (hn:e.vs.take j++us++e.vs.drop (j+us.length)=nw:=by rfl):∃c',(execOp ρ o).run P c.w= .ok .skip c'.w∧c.le c'∧Own c' G (F.set k ⟨e.v,e.T,nw,0⟩):=Own.st k O hx hk hb hlim rfl hs h1 hl hn
theorem Dn {v:Value} (h:v.oneCell'=true):v.cells.toList= [v]:=by
 cases v <;> first | rfl | (simp [Value.oneCell'] at h)
theorem sC (T j:Nat) (v:Value) (nw:List Value) {e:En} {b:Nat} (k:Nat) (O:Own c G F) (h1:lm [v]) (hx:execOp ρ o=(do Instr.storeAt T (.pointer (some ⟨b,j,none⟩)) v; pure Next.skip:Sem Next):=by kernel_rfl) (hk:F[k]? = some e:=by rfl) (hb:blk e.v=some b:=by rfl) (hlim:e.lim=0:=by rfl)
  (hs:(P.info? T).map (·.size)=some 1:=by kernel_rfl) (hl:Nat.ble (j+1) e.vs.length=true:=by rfl) (hn:e.vs.take j++ [v]++e.vs.drop (j+1)=nw:=by rfl):∃c',(execOp ρ o).run P c.w= .ok .skip c'.w∧c.le c'∧Own c' G (F.set k ⟨e.v,e.T,nw,0⟩):=Own.st k O hx hk hb hlim (Dn h1.1) hs h1 hl hn
theorem gB (T j:Nat) (us nw:List Value) {e:En} {b g k:Nat} {E:List En} (r:Nat) (O:Own c G F) (hE:G g k=E) (h1:lm us) (hx:execOp ρ o=(do Instr.storeAt T (.pointer (some ⟨b,j,none⟩)) (.agg us.toArray); pure Next.skip:Sem Next):=by kernel_rfl) (hr:E[r]? = some e:=by rfl) (hb:blk e.v=some b:=by rfl) (hlim:e.lim=0:=by rfl)
  (hs:(P.info? T).map (·.size)=some us.length:=by kernel_rfl) (hl:Nat.ble (j+us.length) e.vs.length=true:=by rfl) (hn:e.vs.take j++us++e.vs.drop (j+us.length)=nw:=by rfl):∃c',(execOp ρ o).run P c.w= .ok .skip c'.w∧c.le c'∧Own c' (fm G g k (E.set r ⟨e.v,e.T,nw,0⟩)) F:=Own.stG r O hx hE hr hb hlim rfl hs h1 hl hn
theorem gC (T j:Nat) (v:Value) (nw:List Value) {e:En} {b g k:Nat} {E:List En} (r:Nat) (O:Own c G F) (hE:G g k=E) (h1:lm [v]) (hx:execOp ρ o=(do Instr.storeAt T (.pointer (some ⟨b,j,none⟩)) v; pure Next.skip:Sem Next):=by kernel_rfl) (hr:E[r]? = some e:=by rfl) (hb:blk e.v=some b:=by rfl) (hlim:e.lim=0:=by rfl)
  (hs:(P.info? T).map (·.size)=some 1:=by kernel_rfl) (hl:Nat.ble (j+1) e.vs.length=true:=by rfl) (hn:e.vs.take j++ [v]++e.vs.drop (j+1)=nw:=by rfl):∃c',(execOp ρ o).run P c.w= .ok .skip c'.w∧c.le c'∧Own c' (fm G g k (E.set r ⟨e.v,e.T,nw,0⟩)) F:=Own.stG r O hx hE hr hb hlim (Dn h1.1) hs h1 hl hn
theorem sl (R:Rp α) (E:TypeId) (ls:List (List Value)) (xs:List α) (O:Own c G F) (hR:qB R c ls xs) (hp:0 < R.size:=by exact aK _) (hm:Nat.ble xs.length 4294967296=true:=by kernel_rfl)
  (hr:(execOp ρ o).run P c.w= .ok (.value (.slice (some ⟨c.w.heap.size,0,none⟩) xs.length xs.length)) (c.w.alloc (.cells ls.flatten.toArray E)):=by kernel_rfl):
  ∃v c',(execOp ρ o).run P c.w= .ok (.value v) c'.w∧c.le c'∧∃vs,Own c' G (es true R v E vs xs :: F)∧OA R c' v vs xs:=Own.sl true O hp rfl hR hm hr
theorem ap (R:Rp α) (z:Value) (by_ ty:Nat) {E t:TypeId} {v u:Value} {vs:List Value} {xs ys zs:List α} {m:Bool} (k:Nat) (O:Own c G F) (h:OA R c v vs xs) (hS:Sl R c u ys) (happ:app xs ys=some zs) (hT:P.underlying t=some (.slice E)) (hk:F[k]? = some (es m R v E vs xs):=by rfl)
  (hi:(P.info? E).map (fun i=>(i.zero,i.size,i.bytes))=some (some z,R.size,by_):=by kernel_rfl) (hz:z.cells.size=R.size:=by rfl) (hby:Nat.ble by_ 128=true:=by kernel_rfl) (hx:execOp ρ o=(do pure (Next.value (←Builtin.append_ #[t,t] ty #[v,u])):Sem Next):=by kernel_rfl):
  ∃v' c',(execOp ρ o).run P c.w= .ok (.value v') c'.w∧c.le c'∧∃vs',Own c' G (F.set k (es m R v' E vs' zs))∧OA R c' v' vs' zs:=Own.app k O hk h hS happ hT hi hz hby hx
variable {RR:Ending→World→Prop}
theorem r0 (h:RR (.returned (.tuple #[])) w) (hr:fn.results= #[]:=by rfl):mW P fn n RR .ret e w:=Hx hr h
theorem n0 (h:RR (.returned (.tuple #[])) w) (hr:fn.results= #[]:=by rfl):mW P fn n RR .normal e w:=GY hr h
theorem r1 {t:Nat} {v:Value} (h:RR (.returned v) w) (hr:fn.results= #[.tmp t]:=by rfl) (hv:ev n e (.tmp t)=v:=by kernel_rfl):mW P fn n RR .ret e w:=Be hr hv h
theorem r2 {t u:Nat} {v v':Value} (h:RR (.returned (.tuple #[v,v'])) w) (hr:fn.results= #[.tmp t,.tmp u]:=by rfl) (hv:ev n e (.tmp t)=v:=by kernel_rfl) (hu:ev n e (.tmp u)=v':=by kernel_rfl):mW P fn n RR .ret e w:=FB hr hv hu h
theorem r3 {t u s:Nat} {v v' v'':Value} (h:RR (.returned (.tuple #[v,v',v''])) w) (hr:fn.results= #[.tmp t,.tmp u,.tmp s]:=by rfl) (hv:ev n e (.tmp t)=v:=by kernel_rfl) (hu:ev n e (.tmp u)=v':=by kernel_rfl) (hs:ev n e (.tmp s)=v'':=by kernel_rfl):mW P fn n RR .ret e w:=Hw hr hv hu hs h
end
abbrev I (x:Int):Value:= .int .i64 x
abbrev J (x:Int):Value:= .int .i32 x
abbrev B (x:Bool):Value:= .bool x
abbrev Q (b:Nat):Value:= .pointer (some ⟨b,0,none⟩)
abbrev Qo (b o:Nat):Value:= .pointer (some ⟨b,o,none⟩)
abbrev aE (a b c:Int):Value:= .agg #[I a,I b,I c]
abbrev III (a b:Int):Value:= .agg #[I a,I b]
abbrev H2 (a b c:Int):Value:= .agg #[J a,J b,J c]
abbrev JII (a b:Int):Value:= .agg #[J a,J b]
abbrev Y:Value:= .slice none 0 0
abbrev Eb (b:Nat) (T:TypeId) (l:List Value):En:=⟨.pointer (some ⟨b,0,none⟩),T,l,0⟩
end Go.Lt
namespace Go.Lt
def eqS (a b:ByteArray):Bool:=a.data.toList==b.data.toList
theorem nf {P:Program} {ρ:Operand→Value} {o:Oper} {a b:ByteArray} {w:World} (hr:(execOp ρ o).run P w= .ok (.value (.bool (a.toList==b.toList))) w):(execOp ρ o).run P w= .ok (.value (.bool (eqS a b))) w:=by
 rw [hr,oT,oT];rfl
theorem uj {P:Program} {ρ:Operand→Value} {o:Oper} {a b:ByteArray} {w:World} (hr:(execOp ρ o).run P w= .ok (.value (.bool (!(a.toList==b.toList)))) w):(execOp ρ o).run P w= .ok (.value (.bool (!eqS a b))) w:=by
 rw [hr,oT,oT];rfl
def ot (s:ByteArray):Int:=(s.size:Int)
def Fw (a b:ByteArray):Option ByteArray:=if a.size+b.size≤far then some (a++b) else none
def A1 (s:ByteArray) (i j:Int):Option ByteArray:=if 0≤i∧i≤j∧j≤s.size then some (s.extract i.toNat j.toNat) else none
theorem Al {s r:ByteArray} {i j:Int} (h:A1 s i j=some r):(0≤i∧i≤j∧j≤s.size)∧s.extract i.toNat j.toNat=r:=by
 unfold A1 at h;split at h
 ·exact ⟨by assumption,by simpa using h⟩
 ·cases h
theorem rA {P:Program} {T ty:TypeId} {s:ByteArray} (hT:P.underlying T=some .string) (w:World):(Builtin.len_ #[T] ty #[.string s]).run P w= .ok (.int .i64 (ot s)) w:=run_len_string w T ty s hT
theorem Cm {P:Program} {a b r:ByteArray} (h:Fw a b=some r) (w:World):(Op.stringOp .add a b).run P w= .ok (.string r) w:=by
 unfold Fw far at h;split at h
 ·cases h;exact run_string_add_sum w a b (by omega)
 ·cases h
theorem A9 {P:Program} {T:TypeId} {s r:ByteArray} {k':IntKind} {j:Int} (hT:P.underlying T=some .string) (h:A1 s 0 j=some r) (w:World):(Instr.sliceAt T (.string s) none (some (.int k' j)) none).run P w= .ok (.string r) w:=by
 rw [Hv _ _ _ _ _ _ hT];obtain ⟨⟨h0,h1,h2⟩,rfl⟩:=Al h;rw [run_slice_string_to_if w T s k' j hT,af ⟨h1,h2⟩];rfl
theorem A8 {P:Program} {T:TypeId} {s r:ByteArray} {k:IntKind} {i:Int} (hT:P.underlying T=some .string) (h:A1 s i (ot s)=some r) (w:World):(Instr.sliceAt T (.string s) (some (.int k i)) none none).run P w= .ok (.string r) w:=by
 rw [Hv _ _ _ _ _ _ hT];obtain ⟨⟨h0,h1,h2⟩,rfl⟩:=Al h;rw [run_slice_string_from_if w T s k i hT,af ⟨h0,h1⟩];rfl
abbrev T2:=Int×Int
def a2 (t:T2):List Int:=[t.1,t.2]
theorem W.regionE {P:Program} {n:Fr} {Q:Exit→(Nat→Value)→World→Prop} (D:List Nat) (K:Cx→Prop) {id:Nat} {l:List Oper} {e:Nat→Value} {c:Cx} (hm:P.follows .mixedOrders=true)
  (h:AC D K P l n Q l.length (List.replicate l.length false) e ⟨c.w.drew,c.A,c.t⟩):W P n (.region id l.toArray true) Q e c.w:=
 wpIn_region_any hm (by
  have:=qA.sound _ _ _ _ h;rw [show (List.replicate l.length false).toArray=Array.replicate l.toArray.size false by simp] at this;exact this)
theorem Own.below {c:Cx} {w':World} {G:Gm} {F:List En} (O:Own c G F) (h:RowKit.Below c.w.heap.size c.w w'):∃c':Cx,c'.w=w'∧c.le c'∧Own c' G F∧∀b o v,c.w.heap.size≤b→w'.cell? ⟨b,o,none⟩=some v→Im c' b o v:=by
 have hbut:c.but (fun _=>False) ⟨w',fun k o=>k < c.w.heap.size∧c.A k o,c.t⟩:=by
  refine ⟨⟨h.os,h.output,h.size,fun k o h1 h2=>⟨dO (w:=c.w) (a:=⟨k,o,none⟩) (h.block k h1),fun q=>h2 q.2⟩,fun k h1 _=>h.block k h1,fun a h1 _=>by simp only [World.frozen?,h.block _ h1],fun _ _ _ q=>q⟩,rfl,fun k h1 _=>⟨h.block k h1,fun o=>⟨fun q=>q.2,fun q=>⟨h1,q⟩⟩⟩⟩
 refine ⟨_,rfl,hbut.le,O.keep hbut,fun b o v hb hv=>⟨?_,fun q=>by omega,hv⟩⟩;show b < w'.heap.size;rcases aL b w'.heap.size with q | q
 ·exact q
 ·simp only [World.cell?,jU q] at hv;cases hv
end Go.Lt
namespace Go.Proofs.YtidapncdmjppeaaGreatDoor
open Go Go.Lt
set_option linter.unusedVariables false
structure dz where
 W:Int
 H:Int
def pX:Rp dz where
 size:=2
 cells:=fun _ l x=>l= [.int .i64 x.W,.int .i64 x.H]
 len:=by
  intro c l x h
  obtain rfl:=h
  rfl
 one:=by
  intro c l x h v hv
  obtain rfl:=h
  simp only [jm,fG,pu] at hv
  rcases hv with rfl | rfl
  ·rfl
  ·rfl
 mono:=by
  intro c c2 l x hc h
  obtain rfl:=h
  exact rfl
structure ai where
 Row:Int
 Col:Int
 Pending:Bool
structure aa where
 Kind:Int
 Text:List Int
def am:Rp aa where
 size:=2
 cells:=fun c l x=>∃y1:Value,l= [.int .i64 x.Kind,y1]∧Sl (RI .i32) c y1 x.Text
 len:=by
  intro c l x h
  obtain ⟨_,rfl,h0⟩:=h
  rfl
 one:=by
  intro c l x h v hv
  obtain ⟨_,rfl,h0⟩:=h
  simp only [jm,fG,pu] at hv
  rcases hv with rfl | rfl
  ·rfl
  ·exact h0.one
 mono:=by
  intro c c2 l x hc h
  obtain ⟨_,rfl,h0⟩:=h
  exact ⟨_,rfl,h0.lw hc⟩
structure ah where
 Cells:List aa
 Wrap:Bool
def ay:Rp ah where
 size:=2
 cells:=fun c l x=>∃y1:Value,l= [y1,.bool x.Wrap]∧Sl am c y1 x.Cells
 len:=by
  intro c l x h
  obtain ⟨_,rfl,h0⟩:=h
  rfl
 one:=by
  intro c l x h v hv
  obtain ⟨_,rfl,h0⟩:=h
  simp only [jm,fG,pu] at hv
  rcases hv with rfl | rfl
  ·exact h0.one
  ·rfl
 mono:=by
  intro c c2 l x hc h
  obtain ⟨_,rfl,h0⟩:=h
  exact ⟨_,rfl,h0.lw hc⟩
structure bh where
 Wide:Int
 High:Int
 Lines:List ah
 At:ai
 Auto:Bool
structure bv where
 Kind:Int
 A:Int
 B:Int
 Bytes:List Int
def om:Rp bv where
 size:=4
 cells:=fun c l x=>∃y1:Value,l= [.int .i64 x.Kind,.int .i64 x.A,.int .i64 x.B,y1]∧Sl (RI .u8) c y1 x.Bytes
 len:=by
  intro c l x h
  obtain ⟨_,rfl,h0⟩:=h
  rfl
 one:=by
  intro c l x h v hv
  obtain ⟨_,rfl,h0⟩:=h
  simp only [jm,fG,pu] at hv
  rcases hv with rfl | rfl | rfl | rfl
  ·rfl
  ·rfl
  ·rfl
  ·exact h0.one
 mono:=by
  intro c c2 l x hc h
  obtain ⟨_,rfl,h0⟩:=h
  exact ⟨_,rfl,h0.lw hc⟩
structure aD where
 Wide:Int
 Text:List Int
def be:Rp aD where
 size:=2
 cells:=fun c l x=>∃y1:Value,l= [.int .i64 x.Wide,y1]∧Sl (RI .i32) c y1 x.Text
 len:=by
  intro c l x h
  obtain ⟨_,rfl,h0⟩:=h
  rfl
 one:=by
  intro c l x h v hv
  obtain ⟨_,rfl,h0⟩:=h
  simp only [jm,fG,pu] at hv
  rcases hv with rfl | rfl
  ·rfl
  ·exact h0.one
 mono:=by
  intro c c2 l x hc h
  obtain ⟨_,rfl,h0⟩:=h
  exact ⟨_,rfl,h0.lw hc⟩
structure bw where
 held:Int
 needs:Int
 lo:Int
 hi:Int
 bits:Int
structure cB where
 some:Bool
 last:Int
 pict:Int
 conj:Int
 odd:Bool
structure aC where
 words:List ByteArray
 at_:Int
 bad:Bool
structure aS where
 Break:Int
 Pict:Bool
 Conj:Int
 East:Int
structure fP where
 from_:Int
 to_:Int
 n:Int
structure bB where
 text:Int×Int×Int×Int×Int×Int×Int×Int×Int×Int×Int×Int×Int×Int×Int×Int
 n:Int
structure bu where
 some:Bool
 pict:Bool
 wide:Bool
def qn:Rp (Int×Int) where
 size:=2
 cells:=fun _ l x=>l= [.int .i32 x.1,.int .i32 x.2]
 len:=by
  intro c l x h
  obtain rfl:=h
  rfl
 one:=by
  intro c l x h v hv
  obtain rfl:=h
  simp only [jm,fG,pu] at hv
  rcases hv with rfl | rfl
  ·rfl
  ·rfl
 mono:=fun _ h=>h
def gg:Rp (Int×Int×Int) where
 size:=3
 cells:=fun _ l x=>l= [.int .i64 x.1,.int .i64 x.2.1,.int .i64 x.2.2]
 len:=by
  intro c l x h
  obtain rfl:=h
  rfl
 one:=by
  intro c l x h v hv
  obtain rfl:=h
  simp only [jm,fG,pu] at hv
  rcases hv with rfl | rfl | rfl
  ·rfl
  ·rfl
  ·rfl
 mono:=fun _ h=>h
structure bc where
 cells:List aa
 wrap:Bool
structure bR where
 rows:List (Option Nat)
structure bd where
 G:Option Nat
 At:ai
 Auto:Bool
structure ba where
 at_:ai
 wide:Int
 text:bB
 gauge:bu
structure bz where
 pen:Option Nat
 dec:bw
 seg:cB
 open_:Option Nat
structure dU where
 Feeder:Option Nat
 pen:Option Nat
structure bX where
 rest:ByteArray
 n:Int
 v:bh
structure bV where
 w:Int
 out:List ah
 line:List aa
def dt (G G':Gm):Prop:=∀g k,G g k≠ []→G' g k=G g k
theorem dt.refl (G:Gm):dt G G:=fun _ _ _=>rfl
theorem dt.trans {a b c:Gm} (h:dt a b) (k:dt b c):dt a c:=fun g i hi=>(k g i (by rw [h g i hi]; exact hi)).trans (h g i hi)
theorem dt.get {G G':Gm} {g k:Nat} {e:En} {l:List En} (h:dt G G') (hE:G g k=e :: l):G' g k=e :: l:=(h g k (by rw [hE]; exact H1 _ _)).trans hE
theorem dt.nil {G G':Gm} {g k:Nat} (h:dt G G') (hE:G' g k= []):G g k= []:=by
 by_cases hn:G g k= []
 ·exact hn
 ·rw [h g k hn] at hE; exact hE
structure Sto where
 row_Row:List bc
 grid_Grid:List bR
 place_Pen:List bd
 widen_Cluster:List ba
 feed_Feeder:List bz
 screen_Screen:List dU
 snap_reader:List bX
 api_Line:List ah
 reflow_breaker:List bV
def Sto.set_row_Row (s:Sto) (k:Nat) (x:bc):Option Sto:=if k < s.row_Row.length then some { s with row_Row:=s.row_Row.set k x} else none
def Sto.add_row_Row (s:Sto) (x:bc):Sto:={ s with row_Row:=s.row_Row++ [x]}
def jf (c:Cx) (t:Option Nat) (E:List En) (x:bc):Prop:=∃(b:Nat) (y1:Value) (u1:List Value),t=some b∧E= [⟨.pointer (some ⟨b,0,none⟩),194,[y1,.bool x.wrap],0⟩,es true am y1 36 u1 x.cells]∧OA am c y1 u1 x.cells
theorem jf.lw {c c':Cx} (k:c.lw c') (b:Nat) (E:List En) (x:bc):jf c (some b) E x→jf c' (some b) E x:=by
 rintro ⟨b,y1,u1,e1,e2,h0⟩;exact ⟨b,y1,u1,e1,e2,h0.lw k⟩
theorem jf.no {c:Cx} (E:List En) (x:bc):¬jf c none E x:=by
 rintro ⟨b,y1,u1,e1,_⟩;cases e1
def Sto.set_grid_Grid (s:Sto) (k:Nat) (x:bR):Option Sto:=if k < s.grid_Grid.length then some { s with grid_Grid:=s.grid_Grid.set k x} else none
def Sto.add_grid_Grid (s:Sto) (x:bR):Sto:={ s with grid_Grid:=s.grid_Grid++ [x]}
def fL (c:Cx) (t:Option Nat) (E:List En) (x:bR):Prop:=∃(b:Nat) (y1:Value) (u1:List Value),t=some b∧E= [⟨.pointer (some ⟨b,0,none⟩),154,[y1],0⟩,es true (RP 0) y1 150 u1 x.rows]∧OA (RP 0) c y1 u1 x.rows
theorem fL.lw {c c':Cx} (k:c.lw c') (b:Nat) (E:List En) (x:bR):fL c (some b) E x→fL c' (some b) E x:=by
 rintro ⟨b,y1,u1,e1,e2,h0⟩;exact ⟨b,y1,u1,e1,e2,h0.lw k⟩
theorem fL.no {c:Cx} (E:List En) (x:bR):¬fL c none E x:=by
 rintro ⟨b,y1,u1,e1,_⟩;cases e1
def Sto.set_place_Pen (s:Sto) (k:Nat) (x:bd):Option Sto:=if k < s.place_Pen.length then some { s with place_Pen:=s.place_Pen.set k x} else none
def Sto.add_place_Pen (s:Sto) (x:bd):Sto:={ s with place_Pen:=s.place_Pen++ [x]}
def fK (c:Cx) (t:Option Nat) (E:List En) (x:bd):Prop:=∃(b:Nat) (y1:Value),t=some b∧E= [⟨.pointer (some ⟨b,0,none⟩),98,[y1,.int .i64 x.At.Row,.int .i64 x.At.Col,.bool x.At.Pending,.bool x.Auto],0⟩]∧Pt 1 c y1 x.G
theorem fK.lw {c c':Cx} (k:c.lw c') (b:Nat) (E:List En) (x:bd):fK c (some b) E x→fK c' (some b) E x:=by
 rintro ⟨b,y1,e1,e2,h0⟩;exact ⟨b,y1,e1,e2,h0.lw k⟩
theorem fK.no {c:Cx} (E:List En) (x:bd):¬fK c none E x:=by
 rintro ⟨b,y1,e1,_⟩;cases e1
def Sto.set_widen_Cluster (s:Sto) (k:Nat) (x:ba):Option Sto:=if k < s.widen_Cluster.length then some { s with widen_Cluster:=s.widen_Cluster.set k x} else none
def Sto.add_widen_Cluster (s:Sto) (x:ba):Sto:={ s with widen_Cluster:=s.widen_Cluster++ [x]}
def dD (c:Cx) (t:Option Nat) (E:List En) (x:ba):Prop:=∃(b:Nat),t=some b∧E= [⟨.pointer (some ⟨b,0,none⟩),292,[.int .i64 x.at_.Row,.int .i64 x.at_.Col,.bool x.at_.Pending,.int .i64 x.wide,.int .i32 x.text.text.1,.int .i32 x.text.text.2.1,.int .i32 x.text.text.2.2.1,.int .i32 x.text.text.2.2.2.1,.int .i32 x.text.text.2.2.2.2.1,.int .i32 x.text.text.2.2.2.2.2.1,.int .i32 x.text.text.2.2.2.2.2.2.1,.int .i32 x.text.text.2.2.2.2.2.2.2.1,.int .i32 x.text.text.2.2.2.2.2.2.2.2.1,.int .i32 x.text.text.2.2.2.2.2.2.2.2.2.1,.int .i32 x.text.text.2.2.2.2.2.2.2.2.2.2.1,.int .i32 x.text.text.2.2.2.2.2.2.2.2.2.2.2.1,.int .i32 x.text.text.2.2.2.2.2.2.2.2.2.2.2.2.1,.int .i32 x.text.text.2.2.2.2.2.2.2.2.2.2.2.2.2.1,.int .i32 x.text.text.2.2.2.2.2.2.2.2.2.2.2.2.2.2.1,.int .i32 x.text.text.2.2.2.2.2.2.2.2.2.2.2.2.2.2.2,.int .i64 x.text.n,.bool x.gauge.some,.bool x.gauge.pict,.bool x.gauge.wide],0⟩]
theorem dD.lw {c c':Cx} (k:c.lw c') (b:Nat) (E:List En) (x:ba):dD c (some b) E x→dD c' (some b) E x:=by
 rintro ⟨b,e1,e2⟩;exact ⟨b,e1,e2⟩
theorem dD.no {c:Cx} (E:List En) (x:ba):¬dD c none E x:=by
 rintro ⟨b,e1,_⟩;cases e1
def Sto.set_feed_Feeder (s:Sto) (k:Nat) (x:bz):Option Sto:=if k < s.feed_Feeder.length then some { s with feed_Feeder:=s.feed_Feeder.set k x} else none
def Sto.add_feed_Feeder (s:Sto) (x:bz):Sto:={ s with feed_Feeder:=s.feed_Feeder++ [x]}
def eq (c:Cx) (t:Option Nat) (E:List En) (x:bz):Prop:=∃(b:Nat) (y1:Value) (y2:Value),t=some b∧E= [⟨.pointer (some ⟨b,0,none⟩),124,[y1,.int .i64 x.dec.held,.int .i64 x.dec.needs,.int .u8 x.dec.lo,.int .u8 x.dec.hi,.int .i64 x.dec.bits,.bool x.seg.some,.int .i64 x.seg.last,.int .i64 x.seg.pict,.int .i64 x.seg.conj,.bool x.seg.odd,y2],0⟩]∧Pt 2 c y1 x.pen∧Pt 3 c y2 x.open_
theorem eq.lw {c c':Cx} (k:c.lw c') (b:Nat) (E:List En) (x:bz):eq c (some b) E x→eq c' (some b) E x:=by
 rintro ⟨b,y1,y2,e1,e2,h0,h1⟩;exact ⟨b,y1,y2,e1,e2,h0.lw k,h1.lw k⟩
theorem eq.no {c:Cx} (E:List En) (x:bz):¬eq c none E x:=by
 rintro ⟨b,y1,y2,e1,_⟩;cases e1
def Sto.add_screen_Screen (s:Sto) (x:dU):Sto:={ s with screen_Screen:=s.screen_Screen++ [x]}
def dS (c:Cx) (t:Option Nat) (E:List En) (x:dU):Prop:=∃(b:Nat) (y1:Value) (y2:Value),t=some b∧E= [⟨.pointer (some ⟨b,0,none⟩),73,[y1,y2],0⟩]∧Pt 4 c y1 x.Feeder∧Pt 2 c y2 x.pen
theorem dS.lw {c c':Cx} (k:c.lw c') (b:Nat) (E:List En) (x:dU):dS c (some b) E x→dS c' (some b) E x:=by
 rintro ⟨b,y1,y2,e1,e2,h0,h1⟩;exact ⟨b,y1,y2,e1,e2,h0.lw k,h1.lw k⟩
theorem dS.no {c:Cx} (E:List En) (x:dU):¬dS c none E x:=by
 rintro ⟨b,y1,y2,e1,_⟩;cases e1
def Sto.set_snap_reader (s:Sto) (k:Nat) (x:bX):Option Sto:=if k < s.snap_reader.length then some { s with snap_reader:=s.snap_reader.set k x} else none
def Sto.add_snap_reader (s:Sto) (x:bX):Sto:={ s with snap_reader:=s.snap_reader++ [x]}
def ep (c:Cx) (t:Option Nat) (E:List En) (x:bX):Prop:=∃(b:Nat) (y1:Value) (u1:List Value),t=some b∧E= [⟨.pointer (some ⟨b,0,none⟩),76,[.string x.rest,.int .i64 x.n,.int .i64 x.v.Wide,.int .i64 x.v.High,y1,.int .i64 x.v.At.Row,.int .i64 x.v.At.Col,.bool x.v.At.Pending,.bool x.v.Auto],0⟩,es false ay y1 39 u1 x.v.Lines]∧OA ay c y1 u1 x.v.Lines
theorem ep.lw {c c':Cx} (k:c.lw c') (b:Nat) (E:List En) (x:bX):ep c (some b) E x→ep c' (some b) E x:=by
 rintro ⟨b,y1,u1,e1,e2,h0⟩;exact ⟨b,y1,u1,e1,e2,h0.lw k⟩
theorem ep.no {c:Cx} (E:List En) (x:bX):¬ep c none E x:=by
 rintro ⟨b,y1,u1,e1,_⟩;cases e1
def Sto.set_api_Line (s:Sto) (k:Nat) (x:ah):Option Sto:=if k < s.api_Line.length then some { s with api_Line:=s.api_Line.set k x} else none
def Sto.add_api_Line (s:Sto) (x:ah):Sto:={ s with api_Line:=s.api_Line++ [x]}
def gP (c:Cx) (t:Option Nat) (E:List En) (x:ah):Prop:=∃(b:Nat) (y1:Value) (u1:List Value),t=some b∧E= [⟨.pointer (some ⟨b,0,none⟩),39,[y1,.bool x.Wrap],0⟩,es false am y1 36 u1 x.Cells]∧OA am c y1 u1 x.Cells
theorem gP.lw {c c':Cx} (k:c.lw c') (b:Nat) (E:List En) (x:ah):gP c (some b) E x→gP c' (some b) E x:=by
 rintro ⟨b,y1,u1,e1,e2,h0⟩;exact ⟨b,y1,u1,e1,e2,h0.lw k⟩
theorem gP.no {c:Cx} (E:List En) (x:ah):¬gP c none E x:=by
 rintro ⟨b,y1,u1,e1,_⟩;cases e1
def Sto.set_reflow_breaker (s:Sto) (k:Nat) (x:bV):Option Sto:=if k < s.reflow_breaker.length then some { s with reflow_breaker:=s.reflow_breaker.set k x} else none
def Sto.add_reflow_breaker (s:Sto) (x:bV):Sto:={ s with reflow_breaker:=s.reflow_breaker++ [x]}
def dm (c:Cx) (t:Option Nat) (E:List En) (x:bV):Prop:=∃(b:Nat) (y1:Value) (u1:List Value) (y3:Value) (u3:List Value),t=some b∧E= [⟨.pointer (some ⟨b,0,none⟩),111,[.int .i64 x.w,y1,y3],0⟩,es false ay y1 39 u1 x.out,es false am y3 36 u3 x.line]∧OA ay c y1 u1 x.out∧OA am c y3 u3 x.line
theorem dm.lw {c c':Cx} (k:c.lw c') (b:Nat) (E:List En) (x:bV):dm c (some b) E x→dm c' (some b) E x:=by
 rintro ⟨b,y1,u1,y3,u3,e1,e2,h0,h1⟩;exact ⟨b,y1,u1,y3,u3,e1,e2,h0.lw k,h1.lw k⟩
theorem dm.no {c:Cx} (E:List En) (x:bV):¬dm c none E x:=by
 rintro ⟨b,y1,u1,y3,u3,e1,_⟩;cases e1
structure Rel (c:Cx) (s:Sto) (G:Gm):Prop where
 row_Row:Rl jf 0 c G s.row_Row
 grid_Grid:Rl fL 1 c G s.grid_Grid
 place_Pen:Rl fK 2 c G s.place_Pen
 widen_Cluster:Rl dD 3 c G s.widen_Cluster
 feed_Feeder:Rl eq 4 c G s.feed_Feeder
 screen_Screen:Rl dS 5 c G s.screen_Screen
 snap_reader:Rl ep 6 c G s.snap_reader
 api_Line:Rl gP 7 c G s.api_Line
 reflow_breaker:Rl dm 8 c G s.reflow_breaker
theorem Rel.lw {c c':Cx} {s:Sto} {G:Gm} (h:Rel c s G) (k:c.lw c'):Rel c' s G:=
 ⟨h.row_Row.mono (jf.lw k) jf.no k,h.grid_Grid.mono (fL.lw k) fL.no k,h.place_Pen.mono (fK.lw k) fK.no k,h.widen_Cluster.mono (dD.lw k) dD.no k,h.feed_Feeder.mono (eq.lw k) eq.no k,h.screen_Screen.mono (dS.lw k) dS.no k,h.snap_reader.mono (ep.lw k) ep.no k,h.api_Line.mono (gP.lw k) gP.no k,h.reflow_breaker.mono (dm.lw k) dm.no k⟩
theorem Rel.mono {c c':Cx} {s:Sto} {G:Gm} (h:Rel c s G) (k:c.le c'):Rel c' s G:=h.lw k.lw
theorem Rel.m {c c':Cx} {s:Sto} {G:Gm} (h:Rel c s G) (k:c.le c':=by repeat (first | assumption | refine Cx.le.trans ?_ (by assumption))):Rel c' s G:=h.mono k
theorem Rel.open_row_Row {c:Cx} {s:Sto} {G:Gm} {k b:Nat} {x:bc} (R:Rel c s G) (hx:s.row_Row[k]? = some x) (ht:c.t 0 k=some b):∃(y1:Value) (u1:List Value),G 0 k= [⟨.pointer (some ⟨b,0,none⟩),194,[y1,.bool x.wrap],0⟩,es true am y1 36 u1 x.cells]∧OA am c y1 u1 x.cells:=by
 obtain ⟨b',y1,u1,e1,e2,h0⟩:=R.row_Row.ob k x hx;rw [ht] at e1;cases e1;exact ⟨y1,u1,e2,h0⟩
theorem Rel.put_row_Row {c:Cx} {s s':Sto} {G:Gm} {F:List En} {k:Nat} {E':List En} {x':bc} (O:Own c (fm G 0 k E') F) (R:Rel c s G) (h:s.set_row_Row k x'=some s') (hY:jf c (c.t 0 k) E' x'):
  ∃G',Own c G' F∧Rel c s' G'∧G' 0 k=E'∧∀G0,dt G0 G→G0 0 k= []→dt G0 G':=by
 unfold Sto.set_row_Row at h;split at h
 ·rename_i hk
  cases h;refine ⟨_,O,⟨R.row_Row.set hk hY,R.grid_Grid.other (by decide),R.place_Pen.other (by decide),R.widen_Cluster.other (by decide),R.feed_Feeder.other (by decide),R.screen_Screen.other (by decide),R.snap_reader.other (by decide),R.api_Line.other (by decide),R.reflow_breaker.other (by decide)⟩,bC _ _ _ _,fun G0 h1 h2 g' k' h3=>?_⟩;rw [dE (by rintro ⟨rfl,rfl⟩; exact h3 h2)];exact h1 g' k' h3
 ·cases h
theorem Rel.new_row_Row {c:Cx} {s:Sto} {G:Gm} {F E:List En} {x:bc} {b:Nat} (O:Own c G (E++F)) (R:Rel c s G) (hY:∀c',c.le c'→jf c' (some b) E x):
  ∃c' G',(c'.w=c.w∧c'.A=c.A)∧c.le c'∧c'.t 0 s.row_Row.length=some b∧Own c' G' F∧Rel c' (s.add_row_Row x) G'∧G' 0 s.row_Row.length=E∧G 0 s.row_Row.length= []∧dt G G':=by
 have hE:=R.row_Row.no _ (ao _);have hne:E≠ []:=by
  obtain ⟨_,_,_,_,rfl,_⟩:=hY c (Cx.le.refl c);simp
 obtain ⟨c',hw,hle,ht,O'⟩:=Own.newObj (b:=b) O hE hne;have R':=R.mono hle;refine ⟨c',_,hw,hle,ht,O',⟨R'.row_Row.new (by rw [ht]; exact hY c' hle),R'.grid_Grid.other (by decide),R'.place_Pen.other (by decide),R'.widen_Cluster.other (by decide),R'.feed_Feeder.other (by decide),R'.screen_Screen.other (by decide),R'.snap_reader.other (by decide),R'.api_Line.other (by decide),R'.reflow_breaker.other (by decide)⟩,bC _ _ _ _,hE,fun g' k' h3=>?_⟩;exact dE (by rintro ⟨rfl,rfl⟩; exact h3 hE)
theorem Rel.open_grid_Grid {c:Cx} {s:Sto} {G:Gm} {k b:Nat} {x:bR} (R:Rel c s G) (hx:s.grid_Grid[k]? = some x) (ht:c.t 1 k=some b):∃(y1:Value) (u1:List Value),G 1 k= [⟨.pointer (some ⟨b,0,none⟩),154,[y1],0⟩,es true (RP 0) y1 150 u1 x.rows]∧OA (RP 0) c y1 u1 x.rows:=by
 obtain ⟨b',y1,u1,e1,e2,h0⟩:=R.grid_Grid.ob k x hx;rw [ht] at e1;cases e1;exact ⟨y1,u1,e2,h0⟩
theorem Rel.put_grid_Grid {c:Cx} {s s':Sto} {G:Gm} {F:List En} {k:Nat} {E':List En} {x':bR} (O:Own c (fm G 1 k E') F) (R:Rel c s G) (h:s.set_grid_Grid k x'=some s') (hY:fL c (c.t 1 k) E' x'):
  ∃G',Own c G' F∧Rel c s' G'∧G' 1 k=E'∧∀G0,dt G0 G→G0 1 k= []→dt G0 G':=by
 unfold Sto.set_grid_Grid at h;split at h
 ·rename_i hk
  cases h;refine ⟨_,O,⟨R.row_Row.other (by decide),R.grid_Grid.set hk hY,R.place_Pen.other (by decide),R.widen_Cluster.other (by decide),R.feed_Feeder.other (by decide),R.screen_Screen.other (by decide),R.snap_reader.other (by decide),R.api_Line.other (by decide),R.reflow_breaker.other (by decide)⟩,bC _ _ _ _,fun G0 h1 h2 g' k' h3=>?_⟩;rw [dE (by rintro ⟨rfl,rfl⟩; exact h3 h2)];exact h1 g' k' h3
 ·cases h
theorem Rel.new_grid_Grid {c:Cx} {s:Sto} {G:Gm} {F E:List En} {x:bR} {b:Nat} (O:Own c G (E++F)) (R:Rel c s G) (hY:∀c',c.le c'→fL c' (some b) E x):
  ∃c' G',(c'.w=c.w∧c'.A=c.A)∧c.le c'∧c'.t 1 s.grid_Grid.length=some b∧Own c' G' F∧Rel c' (s.add_grid_Grid x) G'∧G' 1 s.grid_Grid.length=E∧G 1 s.grid_Grid.length= []∧dt G G':=by
 have hE:=R.grid_Grid.no _ (ao _);have hne:E≠ []:=by
  obtain ⟨_,_,_,_,rfl,_⟩:=hY c (Cx.le.refl c);simp
 obtain ⟨c',hw,hle,ht,O'⟩:=Own.newObj (b:=b) O hE hne;have R':=R.mono hle;refine ⟨c',_,hw,hle,ht,O',⟨R'.row_Row.other (by decide),R'.grid_Grid.new (by rw [ht]; exact hY c' hle),R'.place_Pen.other (by decide),R'.widen_Cluster.other (by decide),R'.feed_Feeder.other (by decide),R'.screen_Screen.other (by decide),R'.snap_reader.other (by decide),R'.api_Line.other (by decide),R'.reflow_breaker.other (by decide)⟩,bC _ _ _ _,hE,fun g' k' h3=>?_⟩;exact dE (by rintro ⟨rfl,rfl⟩; exact h3 hE)
theorem Rel.open_place_Pen {c:Cx} {s:Sto} {G:Gm} {k b:Nat} {x:bd} (R:Rel c s G) (hx:s.place_Pen[k]? = some x) (ht:c.t 2 k=some b):∃(y1:Value),G 2 k= [⟨.pointer (some ⟨b,0,none⟩),98,[y1,.int .i64 x.At.Row,.int .i64 x.At.Col,.bool x.At.Pending,.bool x.Auto],0⟩]∧Pt 1 c y1 x.G:=by
 obtain ⟨b',y1,e1,e2,h0⟩:=R.place_Pen.ob k x hx;rw [ht] at e1;cases e1;exact ⟨y1,e2,h0⟩
theorem Rel.put_place_Pen {c:Cx} {s s':Sto} {G:Gm} {F:List En} {k:Nat} {E':List En} {x':bd} (O:Own c (fm G 2 k E') F) (R:Rel c s G) (h:s.set_place_Pen k x'=some s') (hY:fK c (c.t 2 k) E' x'):
  ∃G',Own c G' F∧Rel c s' G'∧G' 2 k=E'∧∀G0,dt G0 G→G0 2 k= []→dt G0 G':=by
 unfold Sto.set_place_Pen at h;split at h
 ·rename_i hk
  cases h;refine ⟨_,O,⟨R.row_Row.other (by decide),R.grid_Grid.other (by decide),R.place_Pen.set hk hY,R.widen_Cluster.other (by decide),R.feed_Feeder.other (by decide),R.screen_Screen.other (by decide),R.snap_reader.other (by decide),R.api_Line.other (by decide),R.reflow_breaker.other (by decide)⟩,bC _ _ _ _,fun G0 h1 h2 g' k' h3=>?_⟩;rw [dE (by rintro ⟨rfl,rfl⟩; exact h3 h2)];exact h1 g' k' h3
 ·cases h
theorem Rel.new_place_Pen {c:Cx} {s:Sto} {G:Gm} {F E:List En} {x:bd} {b:Nat} (O:Own c G (E++F)) (R:Rel c s G) (hY:∀c',c.le c'→fK c' (some b) E x):
  ∃c' G',(c'.w=c.w∧c'.A=c.A)∧c.le c'∧c'.t 2 s.place_Pen.length=some b∧Own c' G' F∧Rel c' (s.add_place_Pen x) G'∧G' 2 s.place_Pen.length=E∧G 2 s.place_Pen.length= []∧dt G G':=by
 have hE:=R.place_Pen.no _ (ao _);have hne:E≠ []:=by
  obtain ⟨_,_,_,rfl,_⟩:=hY c (Cx.le.refl c);simp
 obtain ⟨c',hw,hle,ht,O'⟩:=Own.newObj (b:=b) O hE hne;have R':=R.mono hle;refine ⟨c',_,hw,hle,ht,O',⟨R'.row_Row.other (by decide),R'.grid_Grid.other (by decide),R'.place_Pen.new (by rw [ht]; exact hY c' hle),R'.widen_Cluster.other (by decide),R'.feed_Feeder.other (by decide),R'.screen_Screen.other (by decide),R'.snap_reader.other (by decide),R'.api_Line.other (by decide),R'.reflow_breaker.other (by decide)⟩,bC _ _ _ _,hE,fun g' k' h3=>?_⟩;exact dE (by rintro ⟨rfl,rfl⟩; exact h3 hE)
theorem Rel.open_widen_Cluster {c:Cx} {s:Sto} {G:Gm} {k b:Nat} {x:ba} (R:Rel c s G) (hx:s.widen_Cluster[k]? = some x) (ht:c.t 3 k=some b):G 3 k= [⟨.pointer (some ⟨b,0,none⟩),292,[.int .i64 x.at_.Row,.int .i64 x.at_.Col,.bool x.at_.Pending,.int .i64 x.wide,.int .i32 x.text.text.1,.int .i32 x.text.text.2.1,.int .i32 x.text.text.2.2.1,.int .i32 x.text.text.2.2.2.1,.int .i32 x.text.text.2.2.2.2.1,.int .i32 x.text.text.2.2.2.2.2.1,.int .i32 x.text.text.2.2.2.2.2.2.1,.int .i32 x.text.text.2.2.2.2.2.2.2.1,.int .i32 x.text.text.2.2.2.2.2.2.2.2.1,.int .i32 x.text.text.2.2.2.2.2.2.2.2.2.1,.int .i32 x.text.text.2.2.2.2.2.2.2.2.2.2.1,.int .i32 x.text.text.2.2.2.2.2.2.2.2.2.2.2.1,.int .i32 x.text.text.2.2.2.2.2.2.2.2.2.2.2.2.1,.int .i32 x.text.text.2.2.2.2.2.2.2.2.2.2.2.2.2.1,.int .i32 x.text.text.2.2.2.2.2.2.2.2.2.2.2.2.2.2.1,.int .i32 x.text.text.2.2.2.2.2.2.2.2.2.2.2.2.2.2.2,.int .i64 x.text.n,.bool x.gauge.some,.bool x.gauge.pict,.bool x.gauge.wide],0⟩]:=by
 obtain ⟨b',e1,e2⟩:=R.widen_Cluster.ob k x hx;rw [ht] at e1;cases e1;exact e2
theorem Rel.put_widen_Cluster {c:Cx} {s s':Sto} {G:Gm} {F:List En} {k:Nat} {E':List En} {x':ba} (O:Own c (fm G 3 k E') F) (R:Rel c s G) (h:s.set_widen_Cluster k x'=some s') (hY:dD c (c.t 3 k) E' x'):
  ∃G',Own c G' F∧Rel c s' G'∧G' 3 k=E'∧∀G0,dt G0 G→G0 3 k= []→dt G0 G':=by
 unfold Sto.set_widen_Cluster at h;split at h
 ·rename_i hk
  cases h;refine ⟨_,O,⟨R.row_Row.other (by decide),R.grid_Grid.other (by decide),R.place_Pen.other (by decide),R.widen_Cluster.set hk hY,R.feed_Feeder.other (by decide),R.screen_Screen.other (by decide),R.snap_reader.other (by decide),R.api_Line.other (by decide),R.reflow_breaker.other (by decide)⟩,bC _ _ _ _,fun G0 h1 h2 g' k' h3=>?_⟩;rw [dE (by rintro ⟨rfl,rfl⟩; exact h3 h2)];exact h1 g' k' h3
 ·cases h
theorem Rel.new_widen_Cluster {c:Cx} {s:Sto} {G:Gm} {F E:List En} {x:ba} {b:Nat} (O:Own c G (E++F)) (R:Rel c s G) (hY:∀c',c.le c'→dD c' (some b) E x):
  ∃c' G',(c'.w=c.w∧c'.A=c.A)∧c.le c'∧c'.t 3 s.widen_Cluster.length=some b∧Own c' G' F∧Rel c' (s.add_widen_Cluster x) G'∧G' 3 s.widen_Cluster.length=E∧G 3 s.widen_Cluster.length= []∧dt G G':=by
 have hE:=R.widen_Cluster.no _ (ao _);have hne:E≠ []:=by
  obtain ⟨_,_,rfl,_⟩:=hY c (Cx.le.refl c);simp
 obtain ⟨c',hw,hle,ht,O'⟩:=Own.newObj (b:=b) O hE hne;have R':=R.mono hle;refine ⟨c',_,hw,hle,ht,O',⟨R'.row_Row.other (by decide),R'.grid_Grid.other (by decide),R'.place_Pen.other (by decide),R'.widen_Cluster.new (by rw [ht]; exact hY c' hle),R'.feed_Feeder.other (by decide),R'.screen_Screen.other (by decide),R'.snap_reader.other (by decide),R'.api_Line.other (by decide),R'.reflow_breaker.other (by decide)⟩,bC _ _ _ _,hE,fun g' k' h3=>?_⟩;exact dE (by rintro ⟨rfl,rfl⟩; exact h3 hE)
theorem Rel.open_feed_Feeder {c:Cx} {s:Sto} {G:Gm} {k b:Nat} {x:bz} (R:Rel c s G) (hx:s.feed_Feeder[k]? = some x) (ht:c.t 4 k=some b):∃(y1:Value) (y2:Value),G 4 k= [⟨.pointer (some ⟨b,0,none⟩),124,[y1,.int .i64 x.dec.held,.int .i64 x.dec.needs,.int .u8 x.dec.lo,.int .u8 x.dec.hi,.int .i64 x.dec.bits,.bool x.seg.some,.int .i64 x.seg.last,.int .i64 x.seg.pict,.int .i64 x.seg.conj,.bool x.seg.odd,y2],0⟩]∧Pt 2 c y1 x.pen∧Pt 3 c y2 x.open_:=by
 obtain ⟨b',y1,y2,e1,e2,h0,h1⟩:=R.feed_Feeder.ob k x hx;rw [ht] at e1;cases e1;exact ⟨y1,y2,e2,h0,h1⟩
theorem Rel.put_feed_Feeder {c:Cx} {s s':Sto} {G:Gm} {F:List En} {k:Nat} {E':List En} {x':bz} (O:Own c (fm G 4 k E') F) (R:Rel c s G) (h:s.set_feed_Feeder k x'=some s') (hY:eq c (c.t 4 k) E' x'):
  ∃G',Own c G' F∧Rel c s' G'∧G' 4 k=E'∧∀G0,dt G0 G→G0 4 k= []→dt G0 G':=by
 unfold Sto.set_feed_Feeder at h;split at h
 ·rename_i hk
  cases h;refine ⟨_,O,⟨R.row_Row.other (by decide),R.grid_Grid.other (by decide),R.place_Pen.other (by decide),R.widen_Cluster.other (by decide),R.feed_Feeder.set hk hY,R.screen_Screen.other (by decide),R.snap_reader.other (by decide),R.api_Line.other (by decide),R.reflow_breaker.other (by decide)⟩,bC _ _ _ _,fun G0 h1 h2 g' k' h3=>?_⟩;rw [dE (by rintro ⟨rfl,rfl⟩; exact h3 h2)];exact h1 g' k' h3
 ·cases h
theorem Rel.new_feed_Feeder {c:Cx} {s:Sto} {G:Gm} {F E:List En} {x:bz} {b:Nat} (O:Own c G (E++F)) (R:Rel c s G) (hY:∀c',c.le c'→eq c' (some b) E x):
  ∃c' G',(c'.w=c.w∧c'.A=c.A)∧c.le c'∧c'.t 4 s.feed_Feeder.length=some b∧Own c' G' F∧Rel c' (s.add_feed_Feeder x) G'∧G' 4 s.feed_Feeder.length=E∧G 4 s.feed_Feeder.length= []∧dt G G':=by
 have hE:=R.feed_Feeder.no _ (ao _);have hne:E≠ []:=by
  obtain ⟨_,_,_,_,rfl,_⟩:=hY c (Cx.le.refl c);simp
 obtain ⟨c',hw,hle,ht,O'⟩:=Own.newObj (b:=b) O hE hne;have R':=R.mono hle;refine ⟨c',_,hw,hle,ht,O',⟨R'.row_Row.other (by decide),R'.grid_Grid.other (by decide),R'.place_Pen.other (by decide),R'.widen_Cluster.other (by decide),R'.feed_Feeder.new (by rw [ht]; exact hY c' hle),R'.screen_Screen.other (by decide),R'.snap_reader.other (by decide),R'.api_Line.other (by decide),R'.reflow_breaker.other (by decide)⟩,bC _ _ _ _,hE,fun g' k' h3=>?_⟩;exact dE (by rintro ⟨rfl,rfl⟩; exact h3 hE)
theorem Rel.open_screen_Screen {c:Cx} {s:Sto} {G:Gm} {k b:Nat} {x:dU} (R:Rel c s G) (hx:s.screen_Screen[k]? = some x) (ht:c.t 5 k=some b):∃(y1:Value) (y2:Value),G 5 k= [⟨.pointer (some ⟨b,0,none⟩),73,[y1,y2],0⟩]∧Pt 4 c y1 x.Feeder∧Pt 2 c y2 x.pen:=by
 obtain ⟨b',y1,y2,e1,e2,h0,h1⟩:=R.screen_Screen.ob k x hx;rw [ht] at e1;cases e1;exact ⟨y1,y2,e2,h0,h1⟩
theorem Rel.new_screen_Screen {c:Cx} {s:Sto} {G:Gm} {F E:List En} {x:dU} {b:Nat} (O:Own c G (E++F)) (R:Rel c s G) (hY:∀c',c.le c'→dS c' (some b) E x):
  ∃c' G',(c'.w=c.w∧c'.A=c.A)∧c.le c'∧c'.t 5 s.screen_Screen.length=some b∧Own c' G' F∧Rel c' (s.add_screen_Screen x) G'∧G' 5 s.screen_Screen.length=E∧G 5 s.screen_Screen.length= []∧dt G G':=by
 have hE:=R.screen_Screen.no _ (ao _);have hne:E≠ []:=by
  obtain ⟨_,_,_,_,rfl,_⟩:=hY c (Cx.le.refl c);simp
 obtain ⟨c',hw,hle,ht,O'⟩:=Own.newObj (b:=b) O hE hne;have R':=R.mono hle;refine ⟨c',_,hw,hle,ht,O',⟨R'.row_Row.other (by decide),R'.grid_Grid.other (by decide),R'.place_Pen.other (by decide),R'.widen_Cluster.other (by decide),R'.feed_Feeder.other (by decide),R'.screen_Screen.new (by rw [ht]; exact hY c' hle),R'.snap_reader.other (by decide),R'.api_Line.other (by decide),R'.reflow_breaker.other (by decide)⟩,bC _ _ _ _,hE,fun g' k' h3=>?_⟩;exact dE (by rintro ⟨rfl,rfl⟩; exact h3 hE)
theorem Rel.open_snap_reader {c:Cx} {s:Sto} {G:Gm} {k b:Nat} {x:bX} (R:Rel c s G) (hx:s.snap_reader[k]? = some x) (ht:c.t 6 k=some b):∃(y1:Value) (u1:List Value),G 6 k= [⟨.pointer (some ⟨b,0,none⟩),76,[.string x.rest,.int .i64 x.n,.int .i64 x.v.Wide,.int .i64 x.v.High,y1,.int .i64 x.v.At.Row,.int .i64 x.v.At.Col,.bool x.v.At.Pending,.bool x.v.Auto],0⟩,es false ay y1 39 u1 x.v.Lines]∧OA ay c y1 u1 x.v.Lines:=by
 obtain ⟨b',y1,u1,e1,e2,h0⟩:=R.snap_reader.ob k x hx;rw [ht] at e1;cases e1;exact ⟨y1,u1,e2,h0⟩
theorem Rel.put_snap_reader {c:Cx} {s s':Sto} {G:Gm} {F:List En} {k:Nat} {E':List En} {x':bX} (O:Own c (fm G 6 k E') F) (R:Rel c s G) (h:s.set_snap_reader k x'=some s') (hY:ep c (c.t 6 k) E' x'):
  ∃G',Own c G' F∧Rel c s' G'∧G' 6 k=E'∧∀G0,dt G0 G→G0 6 k= []→dt G0 G':=by
 unfold Sto.set_snap_reader at h;split at h
 ·rename_i hk
  cases h;refine ⟨_,O,⟨R.row_Row.other (by decide),R.grid_Grid.other (by decide),R.place_Pen.other (by decide),R.widen_Cluster.other (by decide),R.feed_Feeder.other (by decide),R.screen_Screen.other (by decide),R.snap_reader.set hk hY,R.api_Line.other (by decide),R.reflow_breaker.other (by decide)⟩,bC _ _ _ _,fun G0 h1 h2 g' k' h3=>?_⟩;rw [dE (by rintro ⟨rfl,rfl⟩; exact h3 h2)];exact h1 g' k' h3
 ·cases h
theorem Rel.new_snap_reader {c:Cx} {s:Sto} {G:Gm} {F E:List En} {x:bX} {b:Nat} (O:Own c G (E++F)) (R:Rel c s G) (hY:∀c',c.le c'→ep c' (some b) E x):
  ∃c' G',(c'.w=c.w∧c'.A=c.A)∧c.le c'∧c'.t 6 s.snap_reader.length=some b∧Own c' G' F∧Rel c' (s.add_snap_reader x) G'∧G' 6 s.snap_reader.length=E∧G 6 s.snap_reader.length= []∧dt G G':=by
 have hE:=R.snap_reader.no _ (ao _);have hne:E≠ []:=by
  obtain ⟨_,_,_,_,rfl,_⟩:=hY c (Cx.le.refl c);simp
 obtain ⟨c',hw,hle,ht,O'⟩:=Own.newObj (b:=b) O hE hne;have R':=R.mono hle;refine ⟨c',_,hw,hle,ht,O',⟨R'.row_Row.other (by decide),R'.grid_Grid.other (by decide),R'.place_Pen.other (by decide),R'.widen_Cluster.other (by decide),R'.feed_Feeder.other (by decide),R'.screen_Screen.other (by decide),R'.snap_reader.new (by rw [ht]; exact hY c' hle),R'.api_Line.other (by decide),R'.reflow_breaker.other (by decide)⟩,bC _ _ _ _,hE,fun g' k' h3=>?_⟩;exact dE (by rintro ⟨rfl,rfl⟩; exact h3 hE)
theorem Rel.open_api_Line {c:Cx} {s:Sto} {G:Gm} {k b:Nat} {x:ah} (R:Rel c s G) (hx:s.api_Line[k]? = some x) (ht:c.t 7 k=some b):∃(y1:Value) (u1:List Value),G 7 k= [⟨.pointer (some ⟨b,0,none⟩),39,[y1,.bool x.Wrap],0⟩,es false am y1 36 u1 x.Cells]∧OA am c y1 u1 x.Cells:=by
 obtain ⟨b',y1,u1,e1,e2,h0⟩:=R.api_Line.ob k x hx;rw [ht] at e1;cases e1;exact ⟨y1,u1,e2,h0⟩
theorem Rel.put_api_Line {c:Cx} {s s':Sto} {G:Gm} {F:List En} {k:Nat} {E':List En} {x':ah} (O:Own c (fm G 7 k E') F) (R:Rel c s G) (h:s.set_api_Line k x'=some s') (hY:gP c (c.t 7 k) E' x'):
  ∃G',Own c G' F∧Rel c s' G'∧G' 7 k=E'∧∀G0,dt G0 G→G0 7 k= []→dt G0 G':=by
 unfold Sto.set_api_Line at h;split at h
 ·rename_i hk
  cases h;refine ⟨_,O,⟨R.row_Row.other (by decide),R.grid_Grid.other (by decide),R.place_Pen.other (by decide),R.widen_Cluster.other (by decide),R.feed_Feeder.other (by decide),R.screen_Screen.other (by decide),R.snap_reader.other (by decide),R.api_Line.set hk hY,R.reflow_breaker.other (by decide)⟩,bC _ _ _ _,fun G0 h1 h2 g' k' h3=>?_⟩;rw [dE (by rintro ⟨rfl,rfl⟩; exact h3 h2)];exact h1 g' k' h3
 ·cases h
theorem Rel.new_api_Line {c:Cx} {s:Sto} {G:Gm} {F E:List En} {x:ah} {b:Nat} (O:Own c G (E++F)) (R:Rel c s G) (hY:∀c',c.le c'→gP c' (some b) E x):
  ∃c' G',(c'.w=c.w∧c'.A=c.A)∧c.le c'∧c'.t 7 s.api_Line.length=some b∧Own c' G' F∧Rel c' (s.add_api_Line x) G'∧G' 7 s.api_Line.length=E∧G 7 s.api_Line.length= []∧dt G G':=by
 have hE:=R.api_Line.no _ (ao _);have hne:E≠ []:=by
  obtain ⟨_,_,_,_,rfl,_⟩:=hY c (Cx.le.refl c);simp
 obtain ⟨c',hw,hle,ht,O'⟩:=Own.newObj (b:=b) O hE hne;have R':=R.mono hle;refine ⟨c',_,hw,hle,ht,O',⟨R'.row_Row.other (by decide),R'.grid_Grid.other (by decide),R'.place_Pen.other (by decide),R'.widen_Cluster.other (by decide),R'.feed_Feeder.other (by decide),R'.screen_Screen.other (by decide),R'.snap_reader.other (by decide),R'.api_Line.new (by rw [ht]; exact hY c' hle),R'.reflow_breaker.other (by decide)⟩,bC _ _ _ _,hE,fun g' k' h3=>?_⟩;exact dE (by rintro ⟨rfl,rfl⟩; exact h3 hE)
theorem Rel.open_reflow_breaker {c:Cx} {s:Sto} {G:Gm} {k b:Nat} {x:bV} (R:Rel c s G) (hx:s.reflow_breaker[k]? = some x) (ht:c.t 8 k=some b):∃(y1:Value) (u1:List Value) (y3:Value) (u3:List Value),G 8 k= [⟨.pointer (some ⟨b,0,none⟩),111,[.int .i64 x.w,y1,y3],0⟩,es false ay y1 39 u1 x.out,es false am y3 36 u3 x.line]∧OA ay c y1 u1 x.out∧OA am c y3 u3 x.line:=by
 obtain ⟨b',y1,u1,y3,u3,e1,e2,h0,h1⟩:=R.reflow_breaker.ob k x hx;rw [ht] at e1;cases e1;exact ⟨y1,u1,y3,u3,e2,h0,h1⟩
theorem Rel.put_reflow_breaker {c:Cx} {s s':Sto} {G:Gm} {F:List En} {k:Nat} {E':List En} {x':bV} (O:Own c (fm G 8 k E') F) (R:Rel c s G) (h:s.set_reflow_breaker k x'=some s') (hY:dm c (c.t 8 k) E' x'):
  ∃G',Own c G' F∧Rel c s' G'∧G' 8 k=E'∧∀G0,dt G0 G→G0 8 k= []→dt G0 G':=by
 unfold Sto.set_reflow_breaker at h;split at h
 ·rename_i hk
  cases h;refine ⟨_,O,⟨R.row_Row.other (by decide),R.grid_Grid.other (by decide),R.place_Pen.other (by decide),R.widen_Cluster.other (by decide),R.feed_Feeder.other (by decide),R.screen_Screen.other (by decide),R.snap_reader.other (by decide),R.api_Line.other (by decide),R.reflow_breaker.set hk hY⟩,bC _ _ _ _,fun G0 h1 h2 g' k' h3=>?_⟩;rw [dE (by rintro ⟨rfl,rfl⟩; exact h3 h2)];exact h1 g' k' h3
 ·cases h
theorem Rel.new_reflow_breaker {c:Cx} {s:Sto} {G:Gm} {F E:List En} {x:bV} {b:Nat} (O:Own c G (E++F)) (R:Rel c s G) (hY:∀c',c.le c'→dm c' (some b) E x):
  ∃c' G',(c'.w=c.w∧c'.A=c.A)∧c.le c'∧c'.t 8 s.reflow_breaker.length=some b∧Own c' G' F∧Rel c' (s.add_reflow_breaker x) G'∧G' 8 s.reflow_breaker.length=E∧G 8 s.reflow_breaker.length= []∧dt G G':=by
 have hE:=R.reflow_breaker.no _ (ao _);have hne:E≠ []:=by
  obtain ⟨_,_,_,_,_,_,rfl,_⟩:=hY c (Cx.le.refl c);simp
 obtain ⟨c',hw,hle,ht,O'⟩:=Own.newObj (b:=b) O hE hne;have R':=R.mono hle;refine ⟨c',_,hw,hle,ht,O',⟨R'.row_Row.other (by decide),R'.grid_Grid.other (by decide),R'.place_Pen.other (by decide),R'.widen_Cluster.other (by decide),R'.feed_Feeder.other (by decide),R'.screen_Screen.other (by decide),R'.snap_reader.other (by decide),R'.api_Line.other (by decide),R'.reflow_breaker.new (by rw [ht]; exact hY c' hle)⟩,bC _ _ _ _,hE,fun g' k' h3=>?_⟩;exact dE (by rintro ⟨rfl,rfl⟩; exact h3 hE)
def Gl (n:List Nat) (c:Cx):Prop:=(∀g,g∈n→∃v,RE 341 78 c v (.sent g))∧∀g g',g∈n→g'∈n→g≠g'→∀a,Im c g 0 (.iface 341 (.pointer (some a)))→Im c g' 0 (.iface 341 (.pointer (some a)))→False
theorem Gl.lw {n:List Nat} {c c':Cx} (h:Gl n c) (k:c.lw c'):Gl n c':=by
 have key:∀g,g∈n→∀u,Im c' g 0 u→Im c g 0 u:=fun g hg u hu=>by
  obtain ⟨v,hv⟩:=h.1 g hg;have h1:=hv.im;have h2:=h1.lw k;have h3:=h2.cell.symm.trans hu.cell;cases h3;exact h1
 exact ⟨fun g hg=>(h.1 g hg).imp fun v hv=>hv.lw k,fun g g' hg hg' hne a h1 h2=>h.2 g g' hg hg' hne a (key g hg _ h1) (key g' hg' _ h2)⟩
theorem Gl.mono {n:List Nat} {c c':Cx} (h:Gl n c) (k:c.le c'):Gl n c':=h.lw k.lw
theorem Gl.m {n:List Nat} {c c':Cx} (h:Gl n c) (k:c.le c':=by repeat (first | assumption | refine Cx.le.trans ?_ (by assumption))):Gl n c':=h.mono k
theorem Gl.le {n m:List Nat} {c:Cx} (h:Gl n c) (k:∀g∈m,g∈n):Gl m c:=⟨fun g hg=>h.1 g (k g hg),fun g g' hg hg'=>h.2 g g' (k g hg) (k g' hg')⟩
theorem Gl.get {n:List Nat} {c:Cx} (h:Gl n c) (g:Nat) (hg:g∈n):∃v,RE 341 78 c v (.sent g):=h.1 g hg
end Go.Proofs.YtidapncdmjppeaaGreatDoor
namespace Go.Proofs.YtidapncdmjppeaaGreatDoor
open Go Go.Lt
set_option maxRecDepth 10000
set_option linter.unusedVariables false
attribute [local irreducible] W WL AC
open Go.RowKit
structure Et (c:Cx):Prop where
 ml:∃m,Im c 10 0 (.int .i64 m)
 fz:Fz c 9
 tb:Lib.TabIs Tryz.prog c.w "internal/strconv.uint64pow10" .u64 Lib.pow10Tab
theorem tF:Tryz.prog.globalNamed "internal/strconv.uint64pow10" = some 9:=by kernel_rfl
theorem B8 {w w':World} (h:w'.heap[9]? = w.heap[9]?) (t:Lib.TabIs Tryz.prog w "internal/strconv.uint64pow10" .u64 Lib.pow10Tab):Lib.TabIs Tryz.prog w' "internal/strconv.uint64pow10" .u64 Lib.pow10Tab:=by
 unfold Lib.TabIs World.var? at t⊢;rw [tF] at t⊢;simp only [Af] at t⊢;rw [h];exact t
theorem Et.mono {c c':Cx} (h:Et c) (k:c.le c'):Et c':=by
 obtain ⟨m,hm⟩:=h.ml;exact ⟨⟨m,hm.mono k⟩,h.fz.mono k,B8 (k.block _ h.fz.lt h.fz.nA) h.tb⟩
theorem Et.m {c c':Cx} (h:Et c) (k:c.le c':=by repeat (first | assumption | refine Cx.le.trans ?_ (by assumption))):Et c':=h.mono k
section
variable {P:Program} {c0:Cx} {G:Gm} {F:List En}
theorem mD (O0:Own c0 G F) {f:FuncId} {args:Array Value} {v:Value} (h:Calls P f args c0.w fun e w'=>e= .returned v∧RowKit.Below c0.w.heap.size c0.w w'):
  Calls P f args c0.w (aQ c0 fun c v'=>Own c G F∧v'=v):=by
 refine h.mono ?_;rintro e w' ⟨rfl,hb⟩;obtain ⟨c',rfl,h2,h3,_⟩:=Own.below O0 hb;exact ⟨_,c',rfl,rfl,h2,h3,rfl⟩
theorem tu (w:World) (e:TypeId) (s:ByteArray):RowKit.Below w.heap.size w (Lib.bytesWorld w e s):=by
 unfold Lib.bytesWorld;refine RowKit.Below.trans (b:=w.drew.alloc (.cells (Lib.bytesCells w e s) e)) ((kI w.heap.size w).drew.alloc (ao _) _) ?_;refine ⟨rfl,rfl,rfl,?_,fun k hk=>?_⟩
 ·simp [World.freeze]
 ·simp [World.freeze,uh,Nat.ne_of_gt hk]
end
def mkS (l:List UInt8):ByteArray:=⟨l.toArray⟩
def blS (s:ByteArray):List UInt8:=s.data.toList
def rK:Go.Shelf.Ren:=⟨fun | 0=>0 | 1=>1 | 2=>2 | 99=>120 | 119=>275 | 120=>261 | 129=>160 | 137=>84 | 138=>152 | 143=>153 | 146=>85 | 151=>229 | 152=>260 | 156=>62 | 160=>155 | 165=>99 | 166=>30 | 169=>35 | 171=>32 | 172=>157 | 173=>64 | 174=>156 | 195=>191 | 197=>192 | 205=>265 | 206=>154 | 217=>118 | 218=>193 | 219=>194 | 221=>119 | 224=>226 | 225=>225 | 227=>197 | 228=>228 | 231=>195 | 232=>196 | 233=>198 | 234=>199 | 235=>200 | 236=>201 | 240=>61 | 241=>127 | 243=>63 | 244=>204 | 245=>203 | 246=>100 | 247=>202 | 260=>224 | 266=>150 | 267=>227 | 268=>151 | 271=>230 | 276=>98 | 277=>158 | 279=>232 | 280=>233 | 281=>234 | 282=>235 | 283=>128 | 284=>129 | 285=>130 | 286=>131 | 287=>231 | 314=>259 | 316=>264 | 317=>159 | 318=>161 | 319=>162 | 320=>163 | 321=>262 | 322=>263 | 337=>205 | 338=>206 | 347=>278 | 348=>279 | 349=>280 | 350=>281 | 351=>282 | 352=>283 | 353=>284 | 354=>285 | 355=>286 | 356=>287 | 357=>288 | 358=>289 | 359=>290 | 360=>293 | 361=>294 | 362=>297 | 363=>317 | 364=>313 | 365=>314 | 366=>301 | 367=>337 | n=>n,fun | 0=>0 | 1=>1 | 2=>2 | 3=>3 | 4=>4 | 5=>5 | 6=>6 | 7=>7 | 8=>8 | 9=>9 | 10=>10 | 11=>11 | 12=>12 | 13=>13 | 14=>14 | 15=>15 | 16=>16 | 17=>17 | 18=>18 | 19=>19 | 20=>20 | 21=>21 | 22=>210 | 23=>237 | 27=>236 | 28=>101 | 31=>92 | 37=>55 | 39=>223 | 40=>197 | 41=>298 | 43=>216 | 46=>157 | 47=>245 | 48=>254 | 49=>362 | 51=>243 | 52=>284 | 53=>40 | 54=>218 | 55=>166 | 61=>167 | 63=>299 | 64=>329 | 67=>147 | 69=>331 | 70=>85 | 71=>86 | 72=>87 | 73=>192 | 74=>41 | 75=>42 | 76=>88 | 77=>89 | 80=>95 | 81=>99 | 83=>91 | 84=>148 | 85=>238 | 86=>239 | 103=>273 | 104=>169 | 105=>274 | 106=>275 | 108=>334 | 111=>205 | 112=>336 | 113=>209 | 114=>215 | 115=>277 | 116=>278 | 117=>279 | 118=>280 | 119=>323 | 122=>276 | 123=>281 | 124=>282 | 127=>149 | 128=>283 | 131=>213 | 137=>324 | 138=>325 | 139=>326 | 143=>341 | 144=>342 | 145=>343 | 146=>327 | 150=>235 | 151=>328 | 164=>131 | 165=>191 | 166=>240 | 167=>300 | 168=>303 | 169=>304 | 170=>305 | 171=>217 | 172=>219 | 173=>220 | 174=>221 | 175=>301 | 176=>302 | 179=>102 | 209=>332 | 210=>333 | 211=>241 | 212=>242 | 213=>244 | 214=>330 | 222=>174 | 232=>306 | 233=>307 | 238=>344 | 239=>345 | 240=>346 | 241=>347 | 242=>348 | 243=>350 | 244=>139 | 245=>351 | 246=>352 | 247=>353 | 248=>354 | 249=>355 | n=>n,fun | 1=>10 | 3=>13 | 4=>14 | 15=>15 | 16=>16 | 17=>9 | 18=>11 | 19=>12 | n=>n⟩
theorem vI:Lays.n137 Tryz.prog rK:=by
 constructor <;> first | kernel_rfl | (intro w; kernel_rfl) | (constructor <;> first | kernel_rfl | (intro w; kernel_rfl))
def qE:Go.Shelf.Ren:=⟨fun | 0=>0 | 1=>1 | 2=>2 | 99=>120 | 119=>275 | 120=>261 | 129=>160 | 137=>84 | 138=>152 | 143=>153 | 146=>85 | 151=>229 | 152=>260 | 156=>62 | 160=>155 | 165=>99 | 166=>30 | 169=>35 | 171=>32 | 172=>157 | 173=>64 | 174=>156 | 195=>191 | 197=>192 | 205=>265 | 206=>154 | 217=>118 | 218=>193 | 219=>194 | 221=>119 | 224=>226 | 225=>225 | 227=>197 | 228=>228 | 231=>195 | 232=>196 | 233=>198 | 234=>199 | 235=>200 | 236=>201 | 240=>61 | 241=>127 | 243=>63 | 244=>204 | 245=>203 | 246=>100 | 247=>202 | 260=>224 | 266=>150 | 267=>227 | 268=>151 | 271=>230 | 276=>98 | 277=>158 | 279=>232 | 280=>233 | 281=>234 | 282=>235 | 283=>128 | 284=>129 | 285=>130 | 286=>131 | 287=>231 | 314=>259 | 316=>264 | 317=>159 | 318=>161 | 319=>162 | 320=>163 | 321=>262 | 322=>263 | 337=>205 | 338=>206 | 347=>278 | 348=>279 | 349=>280 | 350=>281 | 351=>282 | 352=>283 | 353=>284 | 354=>285 | 355=>286 | 356=>287 | 357=>288 | 358=>289 | 359=>290 | 360=>293 | 361=>294 | 362=>297 | 363=>317 | 364=>313 | 365=>314 | 366=>301 | 367=>337 | n=>n,fun | 0=>0 | 1=>1 | 2=>2 | 3=>3 | 4=>4 | 5=>5 | 6=>6 | 7=>7 | 8=>8 | 9=>9 | 10=>10 | 11=>11 | 12=>12 | 13=>13 | 14=>14 | 15=>15 | 16=>16 | 17=>17 | 18=>18 | 19=>19 | 20=>20 | 21=>21 | 22=>210 | 23=>237 | 27=>236 | 28=>101 | 31=>92 | 37=>55 | 39=>223 | 40=>197 | 41=>298 | 43=>216 | 46=>157 | 47=>245 | 48=>254 | 49=>362 | 51=>243 | 52=>284 | 53=>40 | 54=>218 | 55=>166 | 61=>167 | 63=>299 | 64=>329 | 67=>147 | 69=>331 | 70=>85 | 71=>86 | 72=>87 | 73=>192 | 74=>41 | 75=>42 | 76=>88 | 77=>89 | 80=>95 | 81=>99 | 83=>91 | 84=>148 | 85=>238 | 86=>239 | 103=>273 | 104=>169 | 105=>274 | 106=>275 | 108=>334 | 111=>205 | 112=>336 | 113=>209 | 114=>215 | 115=>277 | 116=>278 | 117=>279 | 118=>280 | 119=>323 | 122=>276 | 123=>281 | 124=>282 | 127=>149 | 128=>283 | 131=>213 | 137=>324 | 138=>325 | 139=>326 | 143=>341 | 144=>342 | 145=>343 | 146=>327 | 150=>235 | 151=>328 | 164=>131 | 165=>191 | 166=>240 | 167=>300 | 168=>303 | 169=>304 | 170=>305 | 171=>217 | 172=>219 | 173=>220 | 174=>221 | 175=>301 | 176=>302 | 179=>102 | 209=>332 | 210=>333 | 211=>241 | 212=>242 | 213=>244 | 214=>330 | 222=>174 | 232=>306 | 233=>307 | 238=>344 | 239=>345 | 240=>346 | 241=>347 | 242=>348 | 243=>350 | 244=>139 | 245=>351 | 246=>352 | 247=>353 | 248=>354 | 249=>355 | n=>n,fun | 1=>10 | 3=>13 | 4=>14 | 15=>15 | 16=>16 | 17=>9 | 18=>11 | 19=>12 | n=>n⟩
theorem Bq:Lays.n146 Tryz.prog qE:=by
 constructor <;> first | kernel_rfl | (intro w; kernel_rfl) | (constructor <;> first | kernel_rfl | (intro w; kernel_rfl))
def xd:Go.Shelf.Ren:=⟨fun | 0=>0 | 1=>1 | 2=>2 | 99=>120 | 119=>275 | 120=>261 | 129=>160 | 137=>84 | 138=>152 | 143=>153 | 146=>85 | 151=>229 | 152=>260 | 156=>62 | 160=>155 | 165=>99 | 166=>30 | 169=>35 | 171=>32 | 172=>157 | 173=>64 | 174=>156 | 195=>191 | 197=>192 | 205=>265 | 206=>154 | 217=>118 | 218=>193 | 219=>194 | 221=>119 | 224=>226 | 225=>225 | 227=>197 | 228=>228 | 231=>195 | 232=>196 | 233=>198 | 234=>199 | 235=>200 | 236=>201 | 240=>61 | 241=>127 | 243=>63 | 244=>204 | 245=>203 | 246=>100 | 247=>202 | 260=>224 | 266=>150 | 267=>227 | 268=>151 | 271=>230 | 276=>98 | 277=>158 | 279=>232 | 280=>233 | 281=>234 | 282=>235 | 283=>128 | 284=>129 | 285=>130 | 286=>131 | 287=>231 | 314=>259 | 316=>264 | 317=>159 | 318=>161 | 319=>162 | 320=>163 | 321=>262 | 322=>263 | 337=>205 | 338=>206 | 347=>278 | 348=>279 | 349=>280 | 350=>281 | 351=>282 | 352=>283 | 353=>284 | 354=>285 | 355=>286 | 356=>287 | 357=>288 | 358=>289 | 359=>290 | 360=>293 | 361=>294 | 362=>297 | 363=>317 | 364=>313 | 365=>314 | 366=>301 | 367=>337 | n=>n,fun | 0=>0 | 1=>1 | 2=>2 | 3=>3 | 4=>4 | 5=>5 | 6=>6 | 7=>7 | 8=>8 | 9=>9 | 10=>10 | 11=>11 | 12=>12 | 13=>13 | 14=>14 | 15=>15 | 16=>16 | 17=>17 | 18=>18 | 19=>19 | 20=>20 | 21=>21 | 22=>210 | 23=>237 | 27=>236 | 28=>101 | 31=>92 | 37=>55 | 39=>223 | 40=>197 | 41=>298 | 43=>216 | 46=>157 | 47=>245 | 48=>254 | 49=>362 | 51=>243 | 52=>284 | 53=>40 | 54=>218 | 55=>166 | 61=>167 | 63=>299 | 64=>329 | 67=>147 | 69=>331 | 70=>85 | 71=>86 | 72=>87 | 73=>192 | 74=>41 | 75=>42 | 76=>88 | 77=>89 | 80=>95 | 81=>99 | 83=>91 | 84=>148 | 85=>238 | 86=>239 | 103=>273 | 104=>169 | 105=>274 | 106=>275 | 108=>334 | 111=>205 | 112=>336 | 113=>209 | 114=>215 | 115=>277 | 116=>278 | 117=>279 | 118=>280 | 119=>323 | 122=>276 | 123=>281 | 124=>282 | 127=>149 | 128=>283 | 131=>213 | 137=>324 | 138=>325 | 139=>326 | 143=>341 | 144=>342 | 145=>343 | 146=>327 | 150=>235 | 151=>328 | 164=>131 | 165=>191 | 166=>240 | 167=>300 | 168=>303 | 169=>304 | 170=>305 | 171=>217 | 172=>219 | 173=>220 | 174=>221 | 175=>301 | 176=>302 | 179=>102 | 209=>332 | 210=>333 | 211=>241 | 212=>242 | 213=>244 | 214=>330 | 222=>174 | 232=>306 | 233=>307 | 238=>344 | 239=>345 | 240=>346 | 241=>347 | 242=>348 | 243=>350 | 244=>139 | 245=>351 | 246=>352 | 247=>353 | 248=>354 | 249=>355 | n=>n,fun | 1=>10 | 3=>13 | 4=>14 | 15=>15 | 16=>16 | 17=>9 | 18=>11 | 19=>12 | n=>n⟩
theorem CP:Lays.n160 Tryz.prog xd:=by
 constructor <;> first | kernel_rfl | (intro w; kernel_rfl) | (constructor <;> first | kernel_rfl | (intro w; kernel_rfl))
def xe:Go.Shelf.Ren:=⟨fun | 0=>0 | 1=>1 | 2=>2 | 99=>120 | 119=>275 | 120=>261 | 129=>160 | 137=>84 | 138=>152 | 143=>153 | 146=>85 | 151=>229 | 152=>260 | 156=>62 | 160=>155 | 165=>99 | 166=>30 | 169=>35 | 171=>32 | 172=>157 | 173=>64 | 174=>156 | 195=>191 | 197=>192 | 205=>265 | 206=>154 | 217=>118 | 218=>193 | 219=>194 | 221=>119 | 224=>226 | 225=>225 | 227=>197 | 228=>228 | 231=>195 | 232=>196 | 233=>198 | 234=>199 | 235=>200 | 236=>201 | 240=>61 | 241=>127 | 243=>63 | 244=>204 | 245=>203 | 246=>100 | 247=>202 | 260=>224 | 266=>150 | 267=>227 | 268=>151 | 271=>230 | 276=>98 | 277=>158 | 279=>232 | 280=>233 | 281=>234 | 282=>235 | 283=>128 | 284=>129 | 285=>130 | 286=>131 | 287=>231 | 314=>259 | 316=>264 | 317=>159 | 318=>161 | 319=>162 | 320=>163 | 321=>262 | 322=>263 | 337=>205 | 338=>206 | 347=>278 | 348=>279 | 349=>280 | 350=>281 | 351=>282 | 352=>283 | 353=>284 | 354=>285 | 355=>286 | 356=>287 | 357=>288 | 358=>289 | 359=>290 | 360=>293 | 361=>294 | 362=>297 | 363=>317 | 364=>313 | 365=>314 | 366=>301 | 367=>337 | n=>n,fun | 0=>0 | 1=>1 | 2=>2 | 3=>3 | 4=>4 | 5=>5 | 6=>6 | 7=>7 | 8=>8 | 9=>9 | 10=>10 | 11=>11 | 12=>12 | 13=>13 | 14=>14 | 15=>15 | 16=>16 | 17=>17 | 18=>18 | 19=>19 | 20=>20 | 21=>21 | 22=>210 | 23=>237 | 27=>236 | 28=>101 | 31=>92 | 37=>55 | 39=>223 | 40=>197 | 41=>298 | 43=>216 | 46=>157 | 47=>245 | 48=>254 | 49=>362 | 51=>243 | 52=>284 | 53=>40 | 54=>218 | 55=>166 | 61=>167 | 63=>299 | 64=>329 | 67=>147 | 69=>331 | 70=>85 | 71=>86 | 72=>87 | 73=>192 | 74=>41 | 75=>42 | 76=>88 | 77=>89 | 80=>95 | 81=>99 | 83=>91 | 84=>148 | 85=>238 | 86=>239 | 103=>273 | 104=>169 | 105=>274 | 106=>275 | 108=>334 | 111=>205 | 112=>336 | 113=>209 | 114=>215 | 115=>277 | 116=>278 | 117=>279 | 118=>280 | 119=>323 | 122=>276 | 123=>281 | 124=>282 | 127=>149 | 128=>283 | 131=>213 | 137=>324 | 138=>325 | 139=>326 | 143=>341 | 144=>342 | 145=>343 | 146=>327 | 150=>235 | 151=>328 | 164=>131 | 165=>191 | 166=>240 | 167=>300 | 168=>303 | 169=>304 | 170=>305 | 171=>217 | 172=>219 | 173=>220 | 174=>221 | 175=>301 | 176=>302 | 179=>102 | 209=>332 | 210=>333 | 211=>241 | 212=>242 | 213=>244 | 214=>330 | 222=>174 | 232=>306 | 233=>307 | 238=>344 | 239=>345 | 240=>346 | 241=>347 | 242=>348 | 243=>350 | 244=>139 | 245=>351 | 246=>352 | 247=>353 | 248=>354 | 249=>355 | n=>n,fun | 1=>10 | 3=>13 | 4=>14 | 15=>15 | 16=>16 | 17=>9 | 18=>11 | 19=>12 | n=>n⟩
theorem CQ:LaysM.n171 Tryz.prog xe:=by
 constructor <;> first | kernel_rfl | (intro w; kernel_rfl) | (constructor <;> first | kernel_rfl | (intro w; kernel_rfl))
def xf:Go.Shelf.Ren:=⟨fun | 0=>0 | 1=>1 | 2=>2 | 99=>120 | 119=>275 | 120=>261 | 129=>160 | 137=>84 | 138=>152 | 143=>153 | 146=>85 | 151=>229 | 152=>260 | 156=>62 | 160=>155 | 165=>99 | 166=>30 | 169=>35 | 171=>32 | 172=>157 | 173=>64 | 174=>156 | 195=>191 | 197=>192 | 205=>265 | 206=>154 | 217=>118 | 218=>193 | 219=>194 | 221=>119 | 224=>226 | 225=>225 | 227=>197 | 228=>228 | 231=>195 | 232=>196 | 233=>198 | 234=>199 | 235=>200 | 236=>201 | 240=>61 | 241=>127 | 243=>63 | 244=>204 | 245=>203 | 246=>100 | 247=>202 | 260=>224 | 266=>150 | 267=>227 | 268=>151 | 271=>230 | 276=>98 | 277=>158 | 279=>232 | 280=>233 | 281=>234 | 282=>235 | 283=>128 | 284=>129 | 285=>130 | 286=>131 | 287=>231 | 314=>259 | 316=>264 | 317=>159 | 318=>161 | 319=>162 | 320=>163 | 321=>262 | 322=>263 | 337=>205 | 338=>206 | 347=>278 | 348=>279 | 349=>280 | 350=>281 | 351=>282 | 352=>283 | 353=>284 | 354=>285 | 355=>286 | 356=>287 | 357=>288 | 358=>289 | 359=>290 | 360=>293 | 361=>294 | 362=>297 | 363=>317 | 364=>313 | 365=>314 | 366=>301 | 367=>337 | n=>n,fun | 0=>0 | 1=>1 | 2=>2 | 3=>3 | 4=>4 | 5=>5 | 6=>6 | 7=>7 | 8=>8 | 9=>9 | 10=>10 | 11=>11 | 12=>12 | 13=>13 | 14=>14 | 15=>15 | 16=>16 | 17=>17 | 18=>18 | 19=>19 | 20=>20 | 21=>21 | 22=>210 | 23=>237 | 27=>236 | 28=>101 | 31=>92 | 37=>55 | 39=>223 | 40=>197 | 41=>298 | 43=>216 | 46=>157 | 47=>245 | 48=>254 | 49=>362 | 51=>243 | 52=>284 | 53=>40 | 54=>218 | 55=>166 | 61=>167 | 63=>299 | 64=>329 | 67=>147 | 69=>331 | 70=>85 | 71=>86 | 72=>87 | 73=>192 | 74=>41 | 75=>42 | 76=>88 | 77=>89 | 80=>95 | 81=>99 | 83=>91 | 84=>148 | 85=>238 | 86=>239 | 103=>273 | 104=>169 | 105=>274 | 106=>275 | 108=>334 | 111=>205 | 112=>336 | 113=>209 | 114=>215 | 115=>277 | 116=>278 | 117=>279 | 118=>280 | 119=>323 | 122=>276 | 123=>281 | 124=>282 | 127=>149 | 128=>283 | 131=>213 | 137=>324 | 138=>325 | 139=>326 | 143=>341 | 144=>342 | 145=>343 | 146=>327 | 150=>235 | 151=>328 | 164=>131 | 165=>191 | 166=>240 | 167=>300 | 168=>303 | 169=>304 | 170=>305 | 171=>217 | 172=>219 | 173=>220 | 174=>221 | 175=>301 | 176=>302 | 179=>102 | 209=>332 | 210=>333 | 211=>241 | 212=>242 | 213=>244 | 214=>330 | 222=>174 | 232=>306 | 233=>307 | 238=>344 | 239=>345 | 240=>346 | 241=>347 | 242=>348 | 243=>350 | 244=>139 | 245=>351 | 246=>352 | 247=>353 | 248=>354 | 249=>355 | n=>n,fun | 1=>10 | 3=>13 | 4=>14 | 15=>15 | 16=>16 | 17=>9 | 18=>11 | 19=>12 | n=>n⟩
theorem CS:Lays.n172 Tryz.prog xf:=by
 constructor <;> first | kernel_rfl | (intro w; kernel_rfl) | (constructor <;> first | kernel_rfl | (intro w; kernel_rfl))
def rJ:Go.Shelf.Ren:=⟨fun | 0=>0 | 1=>1 | 2=>2 | 99=>120 | 119=>275 | 120=>261 | 129=>160 | 137=>84 | 138=>152 | 143=>153 | 146=>85 | 151=>229 | 152=>260 | 156=>62 | 160=>155 | 165=>99 | 166=>30 | 169=>35 | 171=>32 | 172=>157 | 173=>64 | 174=>156 | 195=>191 | 197=>192 | 205=>265 | 206=>154 | 217=>118 | 218=>193 | 219=>194 | 221=>119 | 224=>226 | 225=>225 | 227=>197 | 228=>228 | 231=>195 | 232=>196 | 233=>198 | 234=>199 | 235=>200 | 236=>201 | 240=>61 | 241=>127 | 243=>63 | 244=>204 | 245=>203 | 246=>100 | 247=>202 | 260=>224 | 266=>150 | 267=>227 | 268=>151 | 271=>230 | 276=>98 | 277=>158 | 279=>232 | 280=>233 | 281=>234 | 282=>235 | 283=>128 | 284=>129 | 285=>130 | 286=>131 | 287=>231 | 314=>259 | 316=>264 | 317=>159 | 318=>161 | 319=>162 | 320=>163 | 321=>262 | 322=>263 | 337=>205 | 338=>206 | 347=>278 | 348=>279 | 349=>280 | 350=>281 | 351=>282 | 352=>283 | 353=>284 | 354=>285 | 355=>286 | 356=>287 | 357=>288 | 358=>289 | 359=>290 | 360=>293 | 361=>294 | 362=>297 | 363=>317 | 364=>313 | 365=>314 | 366=>301 | 367=>337 | n=>n,fun | 0=>0 | 1=>1 | 2=>2 | 3=>3 | 4=>4 | 5=>5 | 6=>6 | 7=>7 | 8=>8 | 9=>9 | 10=>10 | 11=>11 | 12=>12 | 13=>13 | 14=>14 | 15=>15 | 16=>16 | 17=>17 | 18=>18 | 19=>19 | 20=>20 | 21=>21 | 22=>210 | 23=>237 | 27=>236 | 28=>101 | 31=>92 | 37=>55 | 39=>223 | 40=>197 | 41=>298 | 43=>216 | 46=>157 | 47=>245 | 48=>254 | 49=>362 | 51=>243 | 52=>284 | 53=>40 | 54=>218 | 55=>166 | 61=>167 | 63=>299 | 64=>329 | 67=>147 | 69=>331 | 70=>85 | 71=>86 | 72=>87 | 73=>192 | 74=>41 | 75=>42 | 76=>88 | 77=>89 | 80=>95 | 81=>99 | 83=>91 | 84=>148 | 85=>238 | 86=>239 | 103=>273 | 104=>169 | 105=>274 | 106=>275 | 108=>334 | 111=>205 | 112=>336 | 113=>209 | 114=>215 | 115=>277 | 116=>278 | 117=>279 | 118=>280 | 119=>323 | 122=>276 | 123=>281 | 124=>282 | 127=>149 | 128=>283 | 131=>213 | 137=>324 | 138=>325 | 139=>326 | 143=>341 | 144=>342 | 145=>343 | 146=>327 | 150=>235 | 151=>328 | 164=>131 | 165=>191 | 166=>240 | 167=>300 | 168=>303 | 169=>304 | 170=>305 | 171=>217 | 172=>219 | 173=>220 | 174=>221 | 175=>301 | 176=>302 | 179=>102 | 209=>332 | 210=>333 | 211=>241 | 212=>242 | 213=>244 | 214=>330 | 222=>174 | 232=>306 | 233=>307 | 238=>344 | 239=>345 | 240=>346 | 241=>347 | 242=>348 | 243=>350 | 244=>139 | 245=>351 | 246=>352 | 247=>353 | 248=>354 | 249=>355 | n=>n,fun | 1=>10 | 3=>13 | 4=>14 | 15=>15 | 16=>16 | 17=>9 | 18=>11 | 19=>12 | n=>n⟩
theorem yt:Lays.n156 Tryz.prog rJ:=by
 constructor <;> first | kernel_rfl | (intro w; kernel_rfl) | (constructor <;> first | kernel_rfl | (intro w; kernel_rfl))
theorem uM:Go.Proofs.Builder.Extra Tryz.prog rJ:=by
 constructor <;> first | kernel_rfl | (intro w; kernel_rfl) | decide | (constructor <;> kernel_rfl)
def mn (p0:ByteArray) (p1:Int):Option Int:=some (Lib.indexByte (blS p0) p1.toNat.toUInt8)
def mJ (p0 p1:ByteArray):Option ByteArray:=if p0.size≤9223372036854775807∧p1.size < 4294967281∧(blS p1).all (fun b=>decide (b.toNat < 128))=true then some (mkS (Lib.trimS (blS p0) (blS p1))) else none
def mi (p0 p1:ByteArray):Option (List ByteArray):=if p0.size < 4294967281∧1≤p1.size then some (Lib.splitB p1 0 (Lib.countB p0 p1) p0) else none
def ij (p0:Int):Option ByteArray:=if -9223372036854775808≤p0∧p0≤9223372036854775807 then some (mkS (Lib.itoa p0)) else none
def mM (p0:ByteArray):Option (Int×Er):=if p0.size≤18 then (Lib.atoi (blS p0)).map fun n=>(n,Er.nil) else none
def mL (p0:List ByteArray) (p1:ByteArray):Option ByteArray:=if p0.length≤140737488355328∧(Lib.join (p0.map blS) (blS p1)).length≤140737488355328 then some (mkS (Lib.join (p0.map blS) (blS p1))) else none
section
variable {c0:Cx} {G:Gm} {F:List En}
abbrev Ak:= @Tryz.underlying150
abbrev ly:= @Tryz.underlying152
abbrev Aj:= @Tryz.underlying174
abbrev we:= @Tryz.underlying185
abbrev oU:= @Tryz.underlying21
abbrev xP:= @Tryz.underlying24
abbrev jS:= @Tryz.underlying27
abbrev u_3:= @Tryz.underlying3
abbrev go:= @Tryz.underlying310
abbrev tC:= @Tryz.underlying314
abbrev fv:= @Tryz.underlying34
abbrev cC:= @Tryz.underlying37
abbrev u_4:= @Tryz.underlying4
abbrev pg:= @Tryz.underlying42
abbrev AZ:= @Tryz.underlying45
abbrev wH:= @Tryz.underlying55
abbrev rm:= @Tryz.underlying64
abbrev xO:= @Tryz.underlying68
abbrev DQ:= @Tryz.underlying70
abbrev xN:= @Tryz.underlying74
abbrev u_9:= @Tryz.underlying9
abbrev jg:= @Tryz.underlying92
abbrev iF:= @Tryz.underlying96
theorem qp (O0:Own c0 G F) (p0:ByteArray) (p1:Int) {r:Int} (H:mn p0 p1=some r):
  Calls Tryz.prog 84 #[.string p0,.int .u8 p1] c0.w (aQ c0 fun c v=>Own c G F∧v= .int .i64 r):=by
 cases H
 refine mD O0 ((Go.Proofs.Any.strings_IndexByte vI p0 p1 c0.w).mono ?_)
 rintro e w' ⟨rfl,rfl⟩
 exact ⟨rfl,kI _ _⟩
theorem pJ (O0:Own c0 G F) (hT:Et c0) (p0 p1:ByteArray) {r:ByteArray} (H:mJ p0 p1=some r):
  Calls Tryz.prog 155 #[.string p0,.string p1] c0.w (aQ c0 fun c v=>Own c G F∧v= .string r):=by
 unfold mJ at H
 split at H
 ·rename_i h
  cases H
  exact mD O0 (Go.Proofs.Any.strings_Trim_laid CP (by kernel_rfl) p0 p1 c0.w h.1 h.2.1 (Go.Proofs.ascii_of_all h.2.2))
 ·cases H
theorem tW (O0:Own c0 G F) (hT:Et c0) (p0 p1:ByteArray) {r:List ByteArray} (H:mi p0 p1=some r):
  Calls Tryz.prog 85 #[.string p0,.string p1] c0.w (aQ c0 fun c v=>∃y1:Value,Own c G F∧v=y1∧Sl RS c y1 r):=by
 unfold mi at H
 split at H
 ·rename_i h
  cases H
  obtain ⟨m,hm⟩:=hT.ml
  have hlen:=Lib.splitB_all p1 h.2 0 _ p0 rfl
  have hle:=Lib.countB_le p1 h.2 p0.size p0 (ao _)
  refine (Go.Proofs.Any.strings_Split Bq (by kernel_rfl) p0 p1 m c0.w h.1 hm.cell h.2).mono ?_
  rintro e w' ⟨rfl,rfl⟩
  obtain ⟨c',e1,e2,e3,e4⟩:=Own.below O0 ((kI _ c0.w).alloc (ao _) (.cells ((Lib.splitB p1 0 (Lib.countB p0 p1) p0).map Value.string).toArray (qE.t 9)))
  refine ⟨_,c',rfl,e1.symm,e2,_,e3,rfl,_,_,by rw [hlen],by rw [hlen]; exact ao _,by unfold maxLen; omega,fun i x hx=>⟨_,_,[.string x],rfl,rfl,fun j u hu=>?_⟩⟩
  cases j with
  | succ j=>simp at hu
  | zero=>
   simp only [jH,aM] at hu
   subst hu
   refine e4 _ _ _ (ao _) ?_
   rw [fV _ _ _ _ _ _ (uY c0.w _),bI,bm]
   rw [show 0+i * RS.size+0=i by show 0+i * 1+0=i; omega,hx]
   rfl
 ·cases H
theorem kZ (O0:Own c0 G F) (hT:Et c0) (p0:Int) {r:ByteArray} (H:ij p0=some r):
  Calls Tryz.prog 32 #[.int .i64 p0] c0.w (aQ c0 fun c v=>Own c G F∧v= .string r):=by
 unfold ij at H
 split at H
 ·rename_i h
  cases H
  refine mD O0 ((Go.Proofs.Any.strconv_Itoa CQ p0 h.1 h.2 c0.w hT.tb).mono ?_)
  rintro e w' ⟨rfl,k,os,rfl⟩
  refine ⟨rfl,⟨rfl,rfl,rfl,?_,fun k hk=>?_⟩⟩
  ·simp
  ·simp [Go.Sort.grow,World.drewN,Array.getElem?_append,hk]
 ·cases H
theorem vh (O0:Own c0 G F) (hT:Et c0) (p0:ByteArray) {r:Int×Er} (H:mM p0=some r): Calls Tryz.prog 157 #[.string p0] c0.w (aQ c0 fun c v=>∃y1:Value,Own c G F∧v= .tuple #[.int .i64 r.1,y1]∧RE 341 78 c y1 r.2):=by
 unfold mM at H;split at H
 ·rename_i h;obtain ⟨n,hn,rfl⟩:=Option.map_eq_some_iff.1 H;refine (mD O0 (v:= .tuple #[.int .i64 n,.nilIface]) ((Go.Proofs.Any.strconv_Atoi CS p0 n h hn c0.w).mono ?_)).mono ?_
  ·rintro e w' ⟨rfl,t,rfl⟩;exact ⟨rfl,tu _ _ _⟩
  ·rintro e w' ⟨v,c,h1,h2,h3,h4,h5⟩;exact ⟨v,c,h1,h2,h3,.nilIface,h4,h5,rfl⟩
 ·cases H
theorem vg (O0:Own c0 G F) (hT:Et c0) {v1:Value} (p0:List ByteArray) (p1:ByteArray) (h1:Sl RS c0 v1 p0) {r:ByteArray} (H:mL p0 p1=some r):
  Calls Tryz.prog 62 #[v1,.string p1] c0.w (aQ c0 fun c v=>Own c G F∧v= .string r):=by
 unfold mL at H
 split at H
 ·rename_i h
  cases H
  obtain ⟨a,cap,rfl,g1,g2,g4⟩:=h1
  cases p0 with
  | nil=>
   refine mD O0 ((Go.Proofs.Any.strings_Join_none yt uM a cap p1 c0.w).mono ?_)
   rintro e w' ⟨rfl,rfl⟩
   exact ⟨rfl,kI _ _⟩
  | cons x t=>
   obtain ⟨b,off,_,rfl,_,_⟩:=g4 0 x rfl
   refine mD O0 (Go.Proofs.Any.strings_Join yt uM b off cap (x :: t) p1 c0.w (fun i y hy=>?_) ?_ h.1 g1 h.2)
   ·obtain ⟨b',off',l,e,hl,hc⟩:=g4 i y hy
    cases e
    have:=(hc 0 _ (by rw [show l= [.string y] from hl]; rfl)).cell
    rwa [show off+i * RS.size+0=off+i by show off+i * 1+0=off+i; omega] at this
   ·obtain ⟨b',off',l,e,hl,hc⟩:=g4 0 x rfl
    cases e
    exact (hc 0 _ (by rw [show l= [.string x] from hl]; rfl)).lt
 ·cases H
end
end Go.Proofs.YtidapncdmjppeaaGreatDoor
namespace Go.Proofs.YtidapncdmjppeaaGreatDoor
open Go Go.Lt
set_option maxRecDepth 10000
set_option linter.unusedVariables false
attribute [local irreducible] W WL AC
def dv (p0:List Int):Option (List Int):=app [] p0
theorem pL {c0:Cx} {G:Gm} {F:List En} {v1:Value} (O0:Own c0 G F) (p0:List Int) (h1:Sl (RI .i32) c0 v1 p0) {r:List Int} (H:dv p0=some r):
  Calls Tryz.prog 78 #[v1] c0.w (aQ c0 fun c v=>∃y1:Value,∃y2:List Value,Own c G (es true (RI .i32) y1 21 y2 r :: F)∧v=y1∧OA (RI .i32) c y1 y2 r):=by
 unfold dv at H
 have hS:=h1
 obtain ⟨a,cap,rfl,h2,h3,h4⟩:=h1
 refine enter (l:=[.slice a p0.length cap]) Tryz.func78 rfl rfl rfl ?_
 refine W.seq ?_
 refine W.region ?_
 refine WL.val0 (v:= .slice none 0 0) rfl (by kernel_rfl) ?_
 refine WL.nil ?_
 refine nrm ?_
 cases a with
 | none=>
  obtain rfl:p0= []:=by
   cases p0 with
   | nil=>rfl
   | cons x t=>
    obtain ⟨b,off,l,e,_⟩:=h4 0 x rfl
    cases e
  obtain rfl:r= []:=by simpa [app] using H.symm
  refine W.seq ?_
  refine W.seq ?_
  refine W.region ?_
  refine WL.val0 (v:= .slice none 0 cap) rfl (by kernel_rfl) ?_
  refine WL.val0 (v:= .bool true) rfl (by kernel_rfl) ?_
  refine WL.nil ?_
  refine nrm ?_
  refine W.cond (t:=true) (by kernel_rfl) (fun _=>?_) (fun h=>by cases h)
  refine W.seq ?_
  refine W.region ?_
  refine WL.val0 (v:= .slice none 0 0) rfl (by kernel_rfl) ?_
  refine WL.nil ?_
  refine nrm ?_
  refine W.ret ?_
  refine thr ?_
  have O1:=O0.addHole (e:=es true (RI .i32) (.slice none 0 0) 21 [] ([]:List Int)) rfl
  exact Be (v:= .slice none 0 0) rfl (by kernel_rfl) ⟨_,c0,rfl,rfl,Cx.le.refl _,_,_,O1,rfl,OA.nil (aK _)⟩
 | some ad=>
  refine W.seq ?_
  refine W.seq ?_
  refine W.region ?_
  refine WL.val0 (v:= .slice (some ad) p0.length cap) rfl (by kernel_rfl) ?_
  refine WL.val0 (v:= .bool false) rfl (by kernel_rfl) ?_
  refine WL.nil ?_
  refine nrm ?_
  refine W.cond (t:=false) (by kernel_rfl) (fun h=>by cases h) (fun _=>?_)
  refine W.skip ?_
  refine nrm ?_
  refine W.seq ?_
  refine W.region ?_
  refine WL.mem rfl (Own.sl (R:=RI .i32) (E:=21) (ls:=[]) (vs:=[]) (xs:=([]:List Int)) true O0 (aK _) rfl trivial (by kernel_rfl) (by kernel_rfl)) ?_
  rintro v5 c1 l1 ⟨u1,O1,a1⟩
  refine WL.val0 (v:= .slice (some ad) p0.length cap) rfl (by kernel_rfl) ?_
  refine WL.mem rfl (Own.app (R:=RI .i32) (z:= .int .i32 0) (by_:=4) (ty:=34) 0 O1 rfl a1 (hS.mono l1) H Tryz.underlying34 (by kernel_rfl) rfl (by kernel_rfl) (by kernel_rfl)) ?_
  rintro v6 c2 l2 ⟨u2,O2,a2⟩
  refine WL.val0 (v:=v6) rfl (by kernel_rfl) ?_
  refine WL.nil ?_
  refine nrm ?_
  refine W.ret ?_
  exact Be (v:=v6) rfl (by kernel_rfl) ⟨_,c2,rfl,rfl,l1.trans l2,_,_,O2,rfl,a2⟩
def jC (p0:Int) (p1:Er):Option Er:=some (.fault p0 p1)
theorem kH {c0:Cx} {G:Gm} {F:List En} {v2:Value} (O0:Own c0 G F) (p0:Int) (p1:Er) (h1:RE 341 78 c0 v2 p1) {r:Er} (H:jC p0 p1=some r): Calls Tryz.prog 28 #[.int .i64 p0,v2] c0.w (aQ c0 fun c v=>∃y1:Value,Own c G F∧v=y1∧RE 341 78 c y1 r):=by
 obtain rfl:=aq H;refine enter (l:=[.int .i64 p0,v2]) Tryz.func28 rfl rfl rfl ?_;refine W.seq ?_;refine W.region ?_;refine WL.val0 (v:= .nilIface) rfl (by kernel_rfl) ?_;refine WL.nil ?_;refine nrm ?_;refine W.seq ?_;refine W.region ?_;refine WL.val0 (v:= .int .i64 p0) rfl (by kernel_rfl) ?_;refine WL.val0 (v:=v2) rfl (by kernel_rfl) ?_;refine WL.val0 (v:= .agg #[.int .i64 p0,v2]) rfl (by rcases h1.cs3 with rfl | ⟨t,a,rfl⟩ <;> kernel_rfl) ?_;refine WL.mem rfl (Own.bx (T:=83) (vs:=[.int .i64 p0,v2]) O0 (by kernel_rfl)) ?_;rintro v5 c1 l1 ⟨b,rfl,O1,hm⟩;refine WL.val0 (v:= .iface 78 (.pointer (some ⟨b,0,none⟩))) rfl (by kernel_rfl) ?_;refine WL.val0 (v:= .iface 78 (.pointer (some ⟨b,0,none⟩))) rfl (by kernel_rfl) ?_;refine WL.nil ?_;refine nrm ?_;refine W.ret ?_;exact Be (v:= .iface 78 (.pointer (some ⟨b,0,none⟩))) rfl (by kernel_rfl) ⟨_,c1,rfl,rfl,l1,_,O1,rfl,_,_,rfl,hm 0 _ rfl,hm 1 _ rfl,h1.mono l1⟩
theorem tZ {c0:Cx} {G:Gm} {F:List En} {e0:En} {b j n:Nat} {p0:List Int} (O0:Own c0 G (e0 :: F)) (hb:blk e0.v=some b) (hn:p0.length=n) (hv:∀m u,(p0.map (.int .i32))[m]? = some u→e0.vs[j+m]? = some u) {r:List Int} (H:dv p0=some r):
  Calls Tryz.prog 78 #[.slice (some ⟨b,j,none⟩) n 16] c0.w (aQ c0 fun c v=>∃y1:Value,∃y2:List Value,Own c G (es true (RI .i32) y1 21 y2 r :: e0 :: F)∧v=y1∧OA (RI .i32) c y1 y2 r):=by
 unfold dv at H
 subst hn
 refine enter (l:=[.slice (some ⟨b,j,none⟩) p0.length 16]) Tryz.func78 rfl rfl rfl ?_
 refine W.seq ?_
 refine W.region ?_
 refine WL.val0 (v:= .slice none 0 0) rfl (by kernel_rfl) ?_
 refine WL.nil ?_
 refine nrm ?_
 refine W.seq ?_
 refine W.seq ?_
 refine W.region ?_
 refine WL.val0 (v:= .slice (some ⟨b,j,none⟩) p0.length 16) rfl (by kernel_rfl) ?_
 refine WL.val0 (v:= .bool false) rfl (by kernel_rfl) ?_
 refine WL.nil ?_
 refine nrm ?_
 refine W.cond (t:=false) (by kernel_rfl) (fun h=>by cases h) (fun _=>?_)
 refine W.skip ?_
 refine nrm ?_
 refine W.seq ?_
 refine W.region ?_
 refine WL.mem rfl (Own.sl (R:=RI .i32) (E:=21) (ls:=[]) (vs:=[]) (xs:=([]:List Int)) true O0 (aK _) rfl trivial (by kernel_rfl) (by kernel_rfl)) ?_
 rintro v5 c1 l1 ⟨u1,O1,a1⟩
 refine WL.val0 (v:= .slice (some ⟨b,j,none⟩) p0.length 16) rfl (by kernel_rfl) ?_
 have hon:=O1.on 1 rfl
 refine WL.mem rfl (Own.appSrc (R:=RI .i32) (nw:=p0.map (.int .i32)) (ua:=some ⟨b,j,none⟩) (ucap:=16) (z:= .int .i32 0) (by_:=4) (ty:=34) 0 O1 rfl a1 (by rw [eF]; exact (Hi _).symm) (fun _=>⟨b,j,rfl,fun m u hu=>(hon.cell hb (j+m)).trans (hv m u hu)⟩) (fun w hw=>by
  obtain ⟨x,_,rfl⟩:=List.mem_map.1 hw
  rfl) (fun i x hx=>by
  show ((p0.map (Value.int .i32)).drop (i * 1)).take 1= [.int .i32 x]
  have hlt:=(List.getElem?_eq_some_iff.1 hx).1
  have he:=(List.getElem?_eq_some_iff.1 hx).2
  rw [Hi,lD (by rw [eF]; exact hlt),Hr,lq,eK,he]) H Tryz.underlying34 (by kernel_rfl) rfl (by kernel_rfl) (by kernel_rfl)) ?_
 rintro v6 c2 l2 ⟨u2,O2,a2⟩
 refine WL.val0 (v:=v6) rfl (by kernel_rfl) ?_
 refine WL.nil ?_
 refine nrm ?_
 refine W.ret ?_
 exact Be (v:=v6) rfl (by kernel_rfl) ⟨_,c2,rfl,rfl,l1.trans l2,_,_,O2,rfl,a2⟩
end Go.Proofs.YtidapncdmjppeaaGreatDoor
namespace Go.Lt
theorem aN {n:Int} (h: -9223372036854775808≤n∧n≤9223372036854775807):w64 n=n:=by
 unfold w64;rw [Ai];omega
theorem zu {n:Int} (h: -2147483648≤n∧n≤2147483647):w32 n=n:=by
 unfold w32;rw [IntKind.wrap_i32];omega
theorem bsm {α β:Type} (a:α) (f:α→Option β):(some a).bind f=f a:=by simp
theorem nO {σ τ:Type} {step:σ→Option (σ ⊕ τ)} (Inv:σ→Prop) (μ:σ→Nat) (post:τ→Prop)
  (h:∀s,Inv s→(∃s',step s=some (.inl s')∧Inv s'∧μ s' < μ s)∨∃t,step s=some (.inr t)∧post t):
  ∀(fuel:Nat) (s:σ),Inv s→μ s < fuel→∃t,cO fuel step s=some t∧post t:=by
 intro fuel
 induction fuel with
 | zero=>intro s _ hm; omega
 | succ k ih=>
  intro s hs hm;rcases h s hs with ⟨s',h1,h2,h3⟩ | ⟨t,h1,h2⟩
  ·obtain ⟨t,h4,h5⟩:=ih s' h2 (by omega);exact ⟨t,by simp [cO,h1,h4],h5⟩
  ·exact ⟨t,by simp [cO,h1],h2⟩
theorem rM {σ τ:Type} {step:σ→Option (σ ⊕ τ)} (Inv:σ→Prop) (μ:σ→Nat) {t:τ}
  (h:∀s,Inv s→(∃s',step s=some (.inl s')∧Inv s'∧μ s' < μ s)∨step s=some (.inr t)) {fuel:Nat} {s:σ} (h0:Inv s) (hm:μ s < fuel):cO fuel step s=some t:=by
 obtain ⟨t',h1,h2⟩:=nO Inv μ (fun x=>x=t) (fun s hs=>(h s hs).imp id fun h=>⟨t,h,rfl⟩) fuel s h0 hm;rw [h1,h2]
theorem bQ (a b:Bool):orE a (some b)=some (a || b):=by cases a <;> rfl
theorem aV (a b:Bool):bL a (some b)=some (a && b):=by cases a <;> rfl
theorem yj (x:Option Bool):orE true x=some true:=rfl
theorem fM (x:Option Bool):orE false x=x:=rfl
theorem je (x:Option Bool):bL true x=x:=rfl
theorem fW (x:Option Bool):bL false x=some false:=rfl
theorem un {α:Type} (xs:List α) (i:Nat):idx xs (i:Int)=xs[i]? :=by
 unfold idx;rw [af (HM i)];rfl
theorem bp {α:Type} {xs:List α} {i:Nat} (h:i < xs.length):idx xs (i:Int)=some xs[i]:=by
 rw [un,ab h]
theorem ib {α:Type} {xs:List α} {i:Nat} (h:i < xs.length) (x:α):jp xs (i:Int) x=some (xs.set i x):=by
 unfold jp;rw [af ⟨HM i,by omega⟩];rfl
theorem cY {α:Type} {xs ys:List α} (h:xs.length+ys.length≤1099511627776):app xs ys=some (xs++ys):=by
 unfold app far;rw [af h]
theorem ox {α:Type} {n:Int} (x:α) (h:0≤n∧n≤1099511627776):rep n x=some (List.replicate n.toNat x):=by
 unfold rep far;rw [af (by omega)]
theorem sx {α:Type} {xs:List α} {i j:Nat} (h:i≤j) (h2:j≤xs.length):slc xs i j=some ((xs.drop i).take (j - i)):=by
 unfold slc;rw [af (by omega)]
 congr 2
 omega
theorem fw (x y:Int):aW x y=max x y:=by unfold aW; split <;> omega
theorem dF (x y:Int):aO x y=min x y:=by unfold aO; split <;> omega
theorem qR {τ:Type} {step:Int→Option (Int ⊕ τ)} {n:Nat} (hn:n≤9223372036854775807) (post:τ→Prop) (Inv:Nat→Prop) (h0:Inv 0)
  (h:∀i:Nat,i < n→Inv i→(step i=some (.inl ((i+1:Nat):Int))∧Inv (i+1))∨∃t,step i=some (.inr t)∧post t)
  (hend:Inv n→∃t,step n=some (.inr t)∧post t):∃t,cO (((n:Int) - 0).toNat+1) step 0=some t∧post t:=by
 refine nO (fun s:Int=>∃i:Nat,s=(i:Int)∧i≤n∧Inv i) (fun s:Int=>n - s.toNat) post (fun s ⟨i,hs,hi,hI⟩=>?_) _ _ ⟨0,rfl,db _,h0⟩ (by simp);subst hs;rcases aL i n with hlt | hge
 ·rcases h i hlt hI with ⟨h1,h2⟩ | h1
  ·exact .inl ⟨_,h1,⟨i+1,rfl,hlt,h2⟩,by simp; omega⟩
  ·exact .inr h1
 ·obtain rfl:i=n:=by omega
  exact .inr (hend hI)
theorem dY {σ τ:Type} {step:σ→Option (σ ⊕ τ)} {n:Nat} (Inv:Nat→σ→Prop) (post:τ→Prop)
  (h:∀i s,i < n→Inv i s→(∃s',step s=some (.inl s')∧Inv (i+1) s')∨∃t,step s=some (.inr t)∧post t)
  (hend:∀s,Inv n s→∃t,step s=some (.inr t)∧post t) {fuel:Nat} {s:σ} (h0:Inv 0 s) (hf:n < fuel):∃t,cO fuel step s=some t∧post t:=by
 have key:∀fuel i s,i≤n→n - i < fuel→Inv i s→∃t,cO fuel step s=some t∧post t:=by
  intro fuel
  induction fuel with
  | zero=>intro i s _ hm; omega
  | succ k ih=>
   intro i s hi hm hs;rcases aL i n with hlt | hge
   ·rcases h i s hlt hs with ⟨s',h1,h2⟩ | ⟨t,h1,h2⟩
    ·obtain ⟨t,h4,h5⟩:=ih (i+1) s' hlt (by omega) h2;exact ⟨t,by simp [cO,h1,h4],h5⟩
    ·exact ⟨t,by simp [cO,h1],h2⟩
   ·obtain rfl:i=n:=by omega
    obtain ⟨t,h1,h2⟩:=hend s hs;exact ⟨t,by simp [cO,h1],h2⟩
 exact key fuel 0 s (db _) (by omega) h0
theorem xC {α β:Type} {x:Option α} {k:α→Option β} {a:α} {r:Option β} (h:x=some a) (h2:k a=r):x.bind k=r:=by rw [h]; exact h2
theorem qh {σ τ β:Type} {step:σ→Option (σ ⊕ τ)} {n:Nat} (Inv:Nat→σ→Prop) (post:τ→Prop) {fuel:Nat} {s:σ} {k:τ→Option β} {r:Option β}
  (h:∀i s,i < n→Inv i s→(∃s',step s=some (.inl s')∧Inv (i+1) s')∨∃t,step s=some (.inr t)∧post t)
  (hend:∀s,Inv n s→∃t,step s=some (.inr t)∧post t) (h0:Inv 0 s) (hf:n < fuel) (hk:∀t,post t→k t=r):(cO fuel step s).bind k=r:=by
 obtain ⟨t,h1,h2⟩:=dY Inv post h hend h0 hf;rw [h1];exact hk t h2
theorem kA {σ τ β:Type} {step:σ→Option (σ ⊕ τ)} {n:Nat} (Inv:Nat→σ→Prop) (post:τ→Prop) {fuel:Nat} {s:σ} {k:τ→Option β} {p:β→Prop}
  (h:∀i s,i < n→Inv i s→(∃s',step s=some (.inl s')∧Inv (i+1) s')∨∃t,step s=some (.inr t)∧post t)
  (hend:∀s,Inv n s→∃t,step s=some (.inr t)∧post t) (h0:Inv 0 s) (hf:n < fuel) (hk:∀t,post t→∃r,k t=some r∧p r):∃r,(cO fuel step s).bind k=some r∧p r:=by
 obtain ⟨t,h1,h2⟩:=dY Inv post h hend h0 hf;rw [h1];exact hk t h2
theorem wx {σ τ γ:Type} {step:σ→Option (σ ⊕ τ)} {n:Nat} (Inv:Nat→σ→Prop) (post:τ→Prop) {fuel:Nat} {s:σ} {k:τ→Option (γ×Bool)}
  (h:∀i s,i < n→Inv i s→(∃s',step s=some (.inl s')∧Inv (i+1) s')∨∃t,step s=some (.inr t)∧post t)
  (hend:∀s,Inv n s→∃t,step s=some (.inr t)∧post t) (h0:Inv 0 s) (hf:n < fuel) (hk:∀t,post t→∃r,k t=some (r,true)):∃r,(cO fuel step s).bind k=some (r,true):=by
 obtain ⟨t,h1,h2⟩:=dY Inv post h hend h0 hf;rw [h1];exact hk t h2
theorem uQ {α τ:Type} {step:List α×Int→Option (List α×Int ⊕ τ)} {n fuel:Nat} (f:Nat→α) {t:τ}
  (h:∀i,i < n→step ((List.range i).map f,(i:Int))=some (.inl ((List.range i).map f++ [f i],((i+1:Nat):Int))))
  (hend:step ((List.range n).map f,(n:Int))=some (.inr t)) (hf:n < fuel):cO fuel step ([],0)=some t:=by
 obtain ⟨t',h1,h2⟩:=dY (step:=step) (n:=n) (fuel:=fuel) (s:=([],0)) (fun i s=>s=((List.range i).map f,(i:Int))) (fun t'=>t'=t)
  (fun i s hi e=>by subst e; exact .inl ⟨_,h i hi,by rw [Ib,bA]; rfl⟩) (fun s e=>by subst e; exact ⟨t,hend,rfl⟩) rfl hf
 rw [h1,h2]
theorem dL {i n:Nat} (h:i < n) (hn:n≤9223372036854775807):w64 ((i:Int)+1)=((i+1:Nat):Int):=by
 rw [aN (by omega)];simp
theorem dlt {i n:Nat} (h:i < n):decide ((i:Int) < (n:Int))=true:=by simp; exact h
theorem dnl (n:Nat):decide ((n:Int) < (n:Int))=false:=by simp
end Go.Lt
namespace Go.Lt
open Go
set_option linter.unusedVariables false
variable {c c':Cx}
def R_V:Rp Value where
 size:=1
 cells:=fun _ l x=>l= [x]∧x.oneCell'=true
 len:=fun h=>by rw [h.1]; rfl
 one:=by
  intro c l x h v hv
  rw [h.1] at hv
  simp only [jm,fG,pu] at hv
  rw [hv]
  exact h.2
 mono:=fun _ h=>h
def NS (c:Cx) (cv:Value) (cvs:List Value) (cur:List Int) (hv:Value) (hvs:List Value) (hs:List Value) (out:List (List Int)):Prop:=
 OA (RI .i32) c cv cvs cur∧OA R_V c hv hvs hs∧((hs= []∧out= [])∨∃(h0:List Value) (gs:List (List Int)),hs=h0++ [cv]∧out=gs++ [cur]∧h0.length=gs.length∧∀(i:Nat) (h:Value) (g:List Int),h0[i]? = some h→gs[i]? = some g→Sl (RI .i32) c h g)
theorem NS.mono {cv hv:Value} {cvs hvs hs:List Value} {cur:List Int} {out:List (List Int)} (h:NS c cv cvs cur hv hvs hs out) (k:c.le c'):NS c' cv cvs cur hv hvs hs out:=
 ⟨h.1.mono k,h.2.1.mono k,h.2.2.imp id fun ⟨h0,gs,a,b,d,e⟩=>⟨h0,gs,a,b,d,fun i x g p q=>(e i x g p q).mono k⟩⟩
theorem NS.len {cv hv:Value} {cvs hvs hs:List Value} {cur:List Int} {out:List (List Int)} (h:NS c cv cvs cur hv hvs hs out):hs.length=out.length:=by
 rcases h.2.2 with ⟨rfl,rfl⟩ | ⟨h0,gs,rfl,rfl,e,_⟩
 ·rfl
 ·rw [aj,aj,e];rfl
theorem NS.none0 (c:Cx):NS c (.slice none 0 0) [] [] (.slice none 0 0) [] [] []:=⟨OA.nil (aK _),OA.nil (aK _),.inl ⟨rfl,rfl⟩⟩
theorem NS.next {cv hv hv':Value} {cvs hvs hs hvs' hs':List Value} {cur:List Int} {out out':List (List Int)} (h:NS c cv cvs cur hv hvs hs out) (k:c.le c') (hc:Sl (RI .i32) c' cv cur) (ho:app out ([[]]:List (List Int))=some out') (h1:hs'=hs++ [.slice none 0 0]) (hn:OA R_V c' hv' hvs' hs'):NS c' (.slice none 0 0) [] [] hv' hvs' hs' out':=by
 have ho':out'=out++ [[]]:=by
  unfold app at ho;split at ho
  ·exact (aq ho).symm
  ·cases ho
 subst ho' h1;refine ⟨OA.nil (aK _),hn,.inr ?_⟩;rcases h.2.2 with ⟨rfl,rfl⟩ | ⟨h0,gs,rfl,rfl,e,f⟩
 ·exact ⟨[],[],rfl,rfl,rfl,fun i x g p=>by simp at p⟩
 ·refine ⟨h0++ [cv],gs++ [cur],rfl,rfl,by rw [aj,aj,e]; rfl,fun i x g p q=>?_⟩;rcases aL i h0.length with hi | hi
  ·rw [aB hi] at p;rw [aB (by omega)] at q;exact (f i x g p q).mono k
  ·rw [aG hi] at p;rw [aG (by omega)] at q;have hj:i - h0.length=0:=by
    by_cases h:i - h0.length=0
    ·exact h
    ·rw [aR (by simp; omega)] at p;cases p
   rw [hj] at p;rw [show i - gs.length=0 by omega] at q;cases p;cases q;exact hc
theorem Gj {cv hv:Value} {cvs hvs hs:List Value} {cur:List Int} {out out':List (List Int)} (h:NS c cv cvs cur hv hvs hs out) (ho:app out ([[]]:List (List Int))=some out') (v:Value):app hs [v]=some (hs++ [v]):=by
 unfold app at ho⊢;split at ho
 ·rename_i q
  rw [af (by rw [h.len]; exact q)]
 ·cases ho
theorem NS.last {cv hv:Value} {cvs hvs hs:List Value} {cur x:List Int} {out:List (List Int)} {m:Nat} (h:NS c cv cvs cur hv hvs hs out) (hm:out.length=m) (hx:idx out (w64 ((m:Int) - 1))=some x):x=cur∧idx hs (w64 ((m:Int) - 1))=some cv∧(∀v,∃hs',jp hs (w64 ((m:Int) - 1)) v=some hs'∧
  ∀y out' c' cvs' hv' hvs',jp out (w64 ((m:Int) - 1)) y=some out'→c.le c'→OA (RI .i32) c' v cvs' y→OA R_V c' hv' hvs' hs'→NS c' v cvs' y hv' hvs' hs' out'∧out'.length=m):=by
 have hl:=h.2.1.len_le;rw [h.len,hm] at hl;rcases h.2.2 with ⟨rfl,rfl⟩ | ⟨h0,gs,rfl,rfl,e,f⟩
 ·unfold idx at hx;split at hx
  ·simp at hx
  ·cases hx
 ·have hg:m=gs.length+1:=by rw [←hm]; simp
  subst hg;have hw:w64 (((gs.length+1:Nat):Int) - 1)=(gs.length:Int):=by
   have:(((gs.length+1:Nat):Int) - 1)=(gs.length:Int):=by omega
   rw [this];exact aN (by simp at hl; omega)
  rw [hw] at hx⊢;refine ⟨?_,?_,fun v=>⟨h0++ [v],?_,fun y out' c2 cvs' hv' hvs' hs2 k hc hh=>?_⟩⟩
  ·unfold idx at hx;rw [af (by omega),aZ,aG (ao _),dd] at hx;cases hx;rfl
  ·unfold idx;rw [af (by omega),aZ,aG (by omega),e,dd];rfl
  ·unfold jp;rw [af (by simp; omega),aZ,←e,dH _ _ (ao _),dd];rfl
  ·unfold jp at hs2;rw [af (by simp; omega),aZ,dH _ _ (ao _),dd] at hs2;cases hs2;exact ⟨⟨hc,hh,.inr ⟨h0,gs,rfl,rfl,e,fun i x g p q=>(f i x g p q).mono k⟩⟩,by simp⟩
theorem NS.all {cv hv:Value} {cvs hvs hs:List Value} {cur:List Int} {out:List (List Int)} (h:NS c cv cvs cur hv hvs hs out) (k:c.le c') (hc:Sl (RI .i32) c' cv cur):OA (RL (RI .i32)) c' hv hvs out:=by
 refine ⟨aK _,?_,fun i x hx=>?_⟩
 ·rcases h.2.1.2.1 with ⟨e,e2⟩ | ⟨g,cap,e,h1,h2,h3⟩
  ·refine .inl ⟨e,bW ?_⟩;rw [←h.len,e2];rfl
  ·rw [h.len] at e h1;exact .inr ⟨g,cap,e,h1,h2,h3⟩
 ·have hi:i < hs.length:=by
   rw [h.len];exact (List.getElem?_eq_some_iff.1 hx).1
  obtain ⟨e,_⟩:=h.2.1.2.2 i hs[i] (ab hi);refine ⟨hs[i],e,?_⟩;rcases h.2.2 with ⟨_,rfl⟩ | ⟨h0,gs,rfl,rfl,el,f⟩
  ·cases hx
  ·rcases aL i h0.length with hj | hj
   ·rw [aB (by omega)] at hx;exact (f i _ x (by rw [rj hj]; exact ab hj) hx).mono k
   ·have hj2:i=h0.length:=by simp at hi; omega
    subst hj2;rw [aG (by omega),el,dd] at hx;cases hx;rw [qz (ao _)];simpa using hc
end Go.Lt
namespace Go.Proofs.YtidapncdmjppeaaGreatDoor
open Go Go.Lt
set_option maxRecDepth 10000
set_option linter.unusedVariables false
attribute [local irreducible] W WL AC
def eH (p0:bh):Option (List (List Int)):=
 (cO (σ:=(List (List Int))×Bool×Int) (τ:=(List (List Int))) (((p0.Lines.length:Int) - 0).toNat+1) (fun s_16=>
 if (decide (s_16.2.2 < (p0.Lines.length:Int)))=true then
 (if (!s_16.2.1)=true then
 (app s_16.1 ([[]]:List (List Int))).bind fun x_27=>
 some x_27
 else
 some s_16.1).bind fun z_21=>
 (idx p0.Lines s_16.2.2).bind fun x_34=>
 (idx p0.Lines s_16.2.2).bind fun x_42=>
 (bL x_42.Wrap (some (decide ((w64 (s_16.2.2+1)) < (p0.Lines.length:Int))))).bind fun d_45=>
 (cO (σ:=Int×Int) (τ:=Int) (((x_34.Cells.length:Int) - 0).toNat+1) (fun s_57=>
 if (decide (s_57.2 < (x_34.Cells.length:Int)))=true then
 ((idx x_34.Cells s_57.2).bind fun x_66=>
 (orE (x_66.Kind != 0) ((bL d_45 (some (decide ((w64 (s_57.2+1)) < (x_34.Cells.length:Int))))).bind fun d_73=>
 some d_73)).bind fun d_70=>
 if d_70=true then
 (some (s_57.2):Option (Int))
 else
 (some (s_57.1):Option (Int))).bind fun z_63=>
 some (.inl (z_63,(w64 (s_57.2+1))))
 else
 some (.inr (s_57.1))) ((-1),0)).bind fun o_57=>
 (cO (σ:=(List (List Int))×Int) (τ:=(List (List Int))) ((o_57 - 0).toNat+2) (fun s_95=>
 if (decide (s_95.2≤o_57))=true then
 (((idx x_34.Cells s_95.2).bind fun x_104=>
 if (x_104.Kind==0)=true then
 (idx s_95.1 (w64 ((z_21.length:Int) - 1))).bind fun x_113=>
 (app x_113 ([32]:List Int)).bind fun x_117=>
 (jp s_95.1 (w64 ((z_21.length:Int) - 1)) x_117).bind fun w_119=>
 some w_119
 else
 some s_95.1).bind fun z_101=>
 (idx x_34.Cells s_95.2).bind fun x_124=>
 (orE (x_124.Kind==1) ((idx x_34.Cells s_95.2).bind fun x_132=>
 some (x_132.Kind==2))).bind fun d_128=>
 if d_128=true then
 (idx z_101 (w64 ((z_21.length:Int) - 1))).bind fun x_141=>
 (idx x_34.Cells s_95.2).bind fun x_146=>
 (app x_141 x_146.Text).bind fun x_149=>
 (jp z_101 (w64 ((z_21.length:Int) - 1)) x_149).bind fun w_151=>
 some w_151
 else
 some z_101).bind fun z_100=>
 some (.inl (z_100,(w64 (s_95.2+1))))
 else
 some (.inr (s_95.1))) (z_21,0)).bind fun o_95=>
 some (.inl (o_95,d_45,(w64 (s_16.2.2+1))))
 else
 some (.inr (s_16.1))) (([]:List (List Int)),false,0)).bind fun o_16=>
 some o_16
theorem oX {c0:Cx} {G:Gm} {F:List En} {v1:Value} (O0:Own c0 G F) (p0:bh) {r:List (List Int)} (h2:Sl ay c0 v1 p0.Lines) (H:eH p0=some r): Calls Tryz.prog 10 #[.agg #[.int .i64 p0.Wide,.int .i64 p0.High,v1,.int .i64 p0.At.Row,.int .i64 p0.At.Col,.bool p0.At.Pending,.bool p0.Auto]] c0.w (aQ c0 fun c v=>∃y1:Value,∃y2:List Value,Own c G (es true (RL (RI .i32)) y1 34 y2 r :: F)∧v=y1∧OA (RL (RI .i32)) c y1 y2 r):=by
 unfold eH at H;refine enter (l:=[.agg #[.int .i64 p0.Wide,.int .i64 p0.High,v1,.int .i64 p0.At.Row,.int .i64 p0.At.Col,.bool p0.At.Pending,.bool p0.Auto]]) Tryz.func10 rfl rfl rfl ?_;refine sr ?_;obtain ⟨a3,a4,a5,rfl⟩:=(h2).form;refine WL.mem rfl (Own.bx (T:=31) (vs:=[.int .i64 p0.Wide,.int .i64 p0.High,.slice a3 a4 a5,.int .i64 p0.At.Row,.int .i64 p0.At.Col,.bool p0.At.Pending,.bool p0.Auto]) O0 (by kernel_rfl)) ?_;rintro v10 c9 l9 ⟨b6,rfl,O7,m8⟩;refine va (.slice none 0 0) ?_;refine wln ?_;refine sr ?_;refine va (.slice none 0 0) ?_;refine wln ?_;refine sr ?_;refine va (.pointer (some ⟨b6,0+2,none⟩)) ?_;refine WL.val0 (v:= .slice a3 a4 a5) rfl (rx (by kernel_rfl) (ic Tryz.underlying27 rfl (m8 2 _ rfl))) ?_;refine WL.val0 (v:= .int .i64 (p0.Lines.length:Int)) rfl (rx (by kernel_rfl) (qd (ty:=3) Tryz.underlying27 (h2.mono l9) _)) ?_;refine va (.int .i64 (p0.Lines.length:Int)) ?_;refine wln ?_;refine sr ?_;refine va (.bool false) ?_;refine wln ?_;refine W.seq ?_;refine sr ?_;refine va (.int .i64 0) ?_;refine wln ?_;refine W.block ?_;obtain ⟨o_16,h11,H12⟩:=bs H;refine W.loop (σ:=(List (List Int))×Bool×Int) (τ:=List (List Int)) (fun s_16=>fun e w=>∃(c:Cx) (g:Nat→Value) (v13:Value) (u14:List Value) (v15:Value) (u16:List Value) (cu0:List Int) (hs0:List Value),w=c.w∧c9.le c∧Own c G (es true (RI .i32) v13 21 u14 cu0 :: es true R_V v15 34 u16 hs0 :: F)∧e=ups g [(1,.pointer (some ⟨b6,0,none⟩)),(3,v15),(4,.int .i64 (p0.Lines.length:Int)),(5,.bool s_16.2.1),(6,.int .i64 s_16.2.2)]∧NS c v13 u14 cu0 v15 u16 hs0 s_16.1) (fun o_16_ ex e w=>ex= .exit 0∧(fun e w=>∃(c:Cx) (g:Nat→Value) (vc:Value) (uc:List Value) (v17:Value) (u18:List Value) (cu6:List Int) (hs6:List Value),w=c.w∧c9.le c∧Own c G (es true (RI .i32) vc 21 uc cu6 :: es true R_V v17 34 u18 hs6 :: F)∧e=ups g [(3,v17)]∧NS c vc uc cu6 v17 u18 hs6 o_16_) e w) ?_ h11 ?_ ?_
 ·clear H12 h11;intro s_16 xx_ ee_ ww_ H;revert ee_ ww_;rintro e_ w_ ⟨c19,g20,v13,u14,v15,u16,cu0,hs0,rfl,l19,O21,rfl,N0⟩;refine W.seq ?_;refine sr ?_;refine va (.int .i64 s_16.2.2) ?_;refine va (.int .i64 (p0.Lines.length:Int)) ?_;refine va (.bool (decide (s_16.2.2 < (p0.Lines.length:Int)))) ?_;refine wln ?_;refine W.cond (t:=decide (s_16.2.2 < (p0.Lines.length:Int))) (by kernel_rfl) (fun h27=>?_) (fun h27=>?_)
  ·have H:=it h27 H;refine W.skip ?_;refine nrm ?_;refine W.seq ?_;refine W.block ?_;obtain ⟨z_21,H28,H29⟩:=bs H;refine W.seqJ (fun e w=>∃(c:Cx) (g:Nat→Value) (v30:Value) (u31:List Value) (v32:Value) (u33:List Value) (cu1:List Int) (hs1:List Value),w=c.w∧c19.le c∧Own c G (es true (RI .i32) v30 21 u31 cu1 :: es true R_V v32 34 u33 hs1 :: F)∧e=ups g [(1,.pointer (some ⟨b6,0,none⟩)),(3,v32),(4,.int .i64 (p0.Lines.length:Int)),(6,.int .i64 s_16.2.2)]∧NS c v30 u31 cu1 v32 u33 hs1 z_21) ?_ ?_
   ·skip;refine sr ?_;refine va (.bool s_16.2.1) ?_;refine va (.bool (!s_16.2.1)) ?_;refine wln ?_;refine W.cond (t:= !s_16.2.1) (by kernel_rfl) (fun h34=>?_) (fun h34=>?_)
    ·have H28:=it h34 H28;refine W.region ?_;refine va (v15) ?_;refine WL.mem rfl (Own.sl (R:=R_V) (E:=34) (ls:=[[.slice none 0 0]]) (vs:=[.slice none 0 0]) (xs:=([.slice none 0 0]:List Value)) true O21 (aK _) rfl ⟨⟨rfl,rfl⟩,trivial⟩ (by kernel_rfl) (by kernel_rfl)) ?_;rintro v39 c38 l38 ⟨u36,O35,h37⟩;obtain ⟨c42,h43,l42,O40,h41⟩:=O35.frz 0 rfl h37;refine WL.gh h43 ?_;obtain ⟨x_27,h44,H28⟩:=bs H28;refine WL.mem rfl (Own.app (R:=R_V) (z:= .slice none 0 0) (by_:=24) (ty:=45) 2 O40 rfl (N0.2.1.mono (l38.trans l42)) h41 (Gj N0 h44 _) Tryz.underlying45 (by kernel_rfl) rfl (by kernel_rfl) (by kernel_rfl)) ?_;rintro v49 c48 l48 ⟨u46,O45,h47⟩;obtain ⟨c60,e60,l60,O60,h60⟩:=O45.frz 1 rfl (N0.1.mono (l38.trans (l42.trans l48)));refine WL.gh e60 ?_;refine va (v49) ?_;refine wln ?_;obtain rfl:=aq H28;have O50:=O60.addHole (e:=es true (RI .i32) (.slice none 0 0) 21 [] ([]:List Int)) rfl;have O52:=O50.selD 4 [0,3] (by kernel_rfl) (by kernel_rfl);exact ⟨c60,_,(.slice none 0 0),[],v49,u46,[],_,rfl,(l38.trans (l42.trans (l48.trans l60))),O52,cm ⟨rfl,rfl,rfl,rfl,trivial⟩,N0.next (l38.trans (l42.trans (l48.trans l60))) h60 h44 rfl (h47.mono l60)⟩
    ·have H28:=ie h34 H28;refine W.skip ?_;refine nrm ?_;obtain rfl:=aq H28;exact ⟨c19,_,v13,u14,v15,u16,cu0,hs0,rfl,(Cx.le.refl _),O21,cm ⟨rfl,rfl,rfl,rfl,trivial⟩,N0⟩
   ·skip;rintro e_ w_ ⟨c53,g54,v30,u31,v32,u33,cu1,hs1,rfl,l53,O55,rfl,N1⟩;refine sr ?_;refine va (.pointer (some ⟨b6,0+2,none⟩)) ?_;refine WL.val0 (v:= .slice a3 a4 a5) rfl (rx (by kernel_rfl) (ic Tryz.underlying27 rfl ((fun j u hu=>(m8 j u hu).mono (l19.trans l53)) 2 _ rfl))) ?_;refine va (.int .i64 s_16.2.2) ?_;obtain ⟨x_34,h61,H29⟩:=bs H29;obtain ⟨l_62,h63,m64⟩:=Sl.at (h2.mono (l9.trans (l19.trans l53))) (bi h61);obtain ⟨v65,rfl,h66⟩:=h63;refine WL.val0 (v:= .pointer (some ⟨sb (.slice a3 a4 a5),so (.slice a3 a4 a5)+s_16.2.2.toNat * 2,none⟩)) rfl (rx (by kernel_rfl) (jL (k:= .i64) Tryz.underlying27 (by kernel_rfl) (h2.mono (l9.trans (l19.trans l53))) h61 _)) ?_;refine va (.pointer (some ⟨sb (.slice a3 a4 a5),so (.slice a3 a4 a5)+s_16.2.2.toNat * 2,none⟩)) ?_;refine WL.val0 (v:=v65) rfl (rx (by kernel_rfl) (ic Tryz.underlying37 rfl (m64 0 _ rfl))) ?_;refine va (v65) ?_;refine wln ?_;refine W.seq ?_;obtain ⟨x_42,h67,H29⟩:=bs H29;obtain ⟨d_45,h68,H29⟩:=bs H29;refine W.join (fun e w=>∃(c:Cx) (g:Nat→Value),w=c.w∧c53.le c∧Own c G (es true (RI .i32) v30 21 u31 cu1 :: es true R_V v32 34 u33 hs1 :: F)∧e=ups g [(1,.pointer (some ⟨b6,0,none⟩)),(3,v32),(4,.int .i64 (p0.Lines.length:Int)),(5,.bool d_45),(6,.int .i64 s_16.2.2),(7,v65)]) ?_ ?_
    ·clear H29;refine W.region ?_;refine va (.pointer (some ⟨b6,0+2,none⟩)) ?_;refine WL.val0 (v:= .slice a3 a4 a5) rfl (rx (by kernel_rfl) (ic Tryz.underlying27 rfl ((fun j u hu=>(m8 j u hu).mono (l19.trans l53)) 2 _ rfl))) ?_;refine va (.int .i64 s_16.2.2) ?_;obtain ⟨l_69,h70,m71⟩:=Sl.at (h2.mono (l9.trans (l19.trans l53))) (bi h67);obtain ⟨v72,rfl,h73⟩:=h70;refine WL.val0 (v:= .pointer (some ⟨sb (.slice a3 a4 a5),so (.slice a3 a4 a5)+s_16.2.2.toNat * 2,none⟩)) rfl (rx (by kernel_rfl) (jL (k:= .i64) Tryz.underlying27 (by kernel_rfl) (h2.mono (l9.trans (l19.trans l53))) h67 _)) ?_;refine va (.pointer (some ⟨sb (.slice a3 a4 a5),so (.slice a3 a4 a5)+s_16.2.2.toNat * 2+1,none⟩)) ?_;refine WL.val0 (v:= .bool x_42.Wrap) rfl (rx (by kernel_rfl) (ic Tryz.underlying4 rfl (m71 1 _ rfl))) ?_;rcases fR (x_42.Wrap) with h74 | h74
     ·skip;have H75:=anT h74 h68;refine vb h74 ?_;refine wn ?_;refine va (.int .i64 s_16.2.2) ?_;refine wn ?_;refine va (.int .i64 (w64 (s_16.2.2+1))) ?_;refine wn ?_;refine va (.int .i64 (p0.Lines.length:Int)) ?_;refine wn ?_;refine va (.bool (decide ((w64 (s_16.2.2+1)) < (p0.Lines.length:Int)))) ?_;obtain rfl:=aq H75;refine va (.bool (decide ((w64 (s_16.2.2+1)) < (p0.Lines.length:Int)))) ?_;refine va (.bool (decide ((w64 (s_16.2.2+1)) < (p0.Lines.length:Int)))) ?_;refine wln ?_;exact ⟨c53,_,rfl,(Cx.le.refl _),O55,cm ⟨rfl,rfl,rfl,rfl,rfl,rfl,trivial⟩⟩
     ·skip;obtain rfl:=anF h74 h68;refine vb h74 ?_;refine ps ?_;refine ps ?_;refine ps ?_;refine ps ?_;refine va (.bool false) ?_;refine va (.bool false) ?_;refine wln ?_;exact ⟨c53,_,rfl,(Cx.le.refl _),O55,cm ⟨rfl,rfl,rfl,rfl,rfl,rfl,trivial⟩⟩
    ·skip;rintro e_ w_ ⟨c76,g77,rfl,l76,O78,rfl⟩;refine nrm ?_;refine sr ?_;refine va (.int .i64 (-1)) ?_;refine wln ?_;refine W.seq ?_;refine sr ?_;refine va (.int .i64 0) ?_;refine wln ?_;refine W.block ?_;obtain ⟨o_57,h82,H83⟩:=bs H29;refine W.loop (σ:=Int×Int) (τ:=Int) (fun s_57=>fun e w=>∃(c:Cx) (g:Nat→Value),w=c.w∧c76.le c∧Own c G (es true (RI .i32) v30 21 u31 cu1 :: es true R_V v32 34 u33 hs1 :: F)∧e=ups g [(1,.pointer (some ⟨b6,0,none⟩)),(3,v32),(4,.int .i64 (p0.Lines.length:Int)),(5,.bool d_45),(6,.int .i64 s_16.2.2),(7,v65),(8,.int .i64 s_57.1),(9,.int .i64 s_57.2)]) (fun o_57_ ex e w=>ex= .exit 2∧(fun e w=>∃(c:Cx) (g:Nat→Value),w=c.w∧c76.le c∧Own c G (es true (RI .i32) v30 21 u31 cu1 :: es true R_V v32 34 u33 hs1 :: F)∧e=ups g [(1,.pointer (some ⟨b6,0,none⟩)),(3,v32),(4,.int .i64 (p0.Lines.length:Int)),(5,.bool d_45),(6,.int .i64 s_16.2.2),(7,v65),(8,.int .i64 o_57_)]) e w) ?_ h82 ?_ ?_
     ·clear H83 h82;intro s_57 xx_ ee_ ww_ H29;revert ee_ ww_;rintro e_ w_ ⟨c84,g85,rfl,l84,O86,rfl⟩;refine W.seq ?_;refine sr ?_;refine va (.int .i64 s_57.2) ?_;refine va (v65) ?_;refine WL.val0 (v:= .int .i64 (x_34.Cells.length:Int)) rfl (rx (by kernel_rfl) (qd (ty:=3) Tryz.underlying37 (h66.mono (l76.trans l84)) _)) ?_;refine va (.bool (decide (s_57.2 < (x_34.Cells.length:Int)))) ?_;refine wln ?_;refine W.cond (t:=decide (s_57.2 < (x_34.Cells.length:Int))) (by kernel_rfl) (fun h90=>?_) (fun h90=>?_)
      ·have H29:=it h90 H29;refine W.skip ?_;refine nrm ?_;obtain ⟨z_63,H91,H92⟩:=bs H29;refine W.seqJ (fun e w=>∃(c:Cx) (g:Nat→Value),w=c.w∧c84.le c∧Own c G (es true (RI .i32) v30 21 u31 cu1 :: es true R_V v32 34 u33 hs1 :: F)∧e=ups g [(1,.pointer (some ⟨b6,0,none⟩)),(3,v32),(4,.int .i64 (p0.Lines.length:Int)),(5,.bool d_45),(6,.int .i64 s_16.2.2),(7,v65),(8,.int .i64 z_63),(9,.int .i64 s_57.2)]) ?_ ?_
       ·skip;refine W.block ?_;refine W.seq ?_;obtain ⟨x_66,h93,H91⟩:=bs H91;obtain ⟨d_70,h94,H91⟩:=bs H91;refine W.join (fun e w=>∃(c:Cx) (g:Nat→Value),w=c.w∧c84.le c∧Own c G (es true (RI .i32) v30 21 u31 cu1 :: es true R_V v32 34 u33 hs1 :: F)∧e=ups g [(1,.pointer (some ⟨b6,0,none⟩)),(3,v32),(4,.int .i64 (p0.Lines.length:Int)),(5,.bool d_45),(6,.int .i64 s_16.2.2),(7,v65),(8,.int .i64 s_57.1),(9,.int .i64 s_57.2),(64,.bool d_70)]) ?_ ?_
        ·clear H91;refine W.region ?_;refine va (v65) ?_;refine va (.int .i64 s_57.2) ?_;obtain ⟨l_95,h96,m97⟩:=Sl.at (h66.mono (l76.trans l84)) (bi h93);obtain ⟨v98,rfl,h99⟩:=h96;refine WL.val0 (v:= .pointer (some ⟨sb v65,so v65+s_57.2.toNat * 2,none⟩)) rfl (rx (by kernel_rfl) (jL (k:= .i64) Tryz.underlying37 (by kernel_rfl) (h66.mono (l76.trans l84)) h93 _)) ?_;refine va (.pointer (some ⟨sb v65,so v65+s_57.2.toNat * 2,none⟩)) ?_;refine WL.val0 (v:= .int .i64 x_66.Kind) rfl (rx (by kernel_rfl) (ic Tryz.underlying3 rfl (m97 0 _ rfl))) ?_;refine va (.bool (x_66.Kind != 0)) ?_;rcases fR (x_66.Kind != 0) with h100 | h100
         ·skip;obtain rfl:=orT h100 h94;refine vb h100 ?_;refine ps ?_;refine ps ?_;refine ps ?_;refine ps ?_;refine ps ?_;refine ps ?_;refine ps ?_;refine ps ?_;refine va (.bool true) ?_;refine wln ?_;exact ⟨c84,_,rfl,(Cx.le.refl _),O86,cm ⟨rfl,rfl,rfl,rfl,rfl,rfl,rfl,rfl,rfl,trivial⟩⟩
         ·skip;have H101:=orF h100 h94;refine vb h100 ?_;refine wn ?_;refine va (.bool d_45) ?_;refine wn ?_;obtain ⟨d_73,h102,H101⟩:=bs H101;rcases fR (d_45) with h103 | h103
          ·skip;have H104:=anT h103 h102;refine vb h103 ?_;refine wn ?_;refine va (.int .i64 s_57.2) ?_;refine wn ?_;refine va (.int .i64 (w64 (s_57.2+1))) ?_;refine wn ?_;refine va (v65) ?_;refine wn ?_;refine WL.val0 (v:= .int .i64 (x_34.Cells.length:Int)) rfl (rx (by kernel_rfl) (qd (ty:=3) Tryz.underlying37 (h66.mono (l76.trans l84)) _)) ?_;refine wn ?_;refine va (.bool (decide ((w64 (s_57.2+1)) < (x_34.Cells.length:Int)))) ?_;refine wn ?_;obtain rfl:=aq H104;refine va (.bool (decide ((w64 (s_57.2+1)) < (x_34.Cells.length:Int)))) ?_;obtain rfl:=aq H101;refine va (.bool (decide ((w64 (s_57.2+1)) < (x_34.Cells.length:Int)))) ?_;refine wln ?_;exact ⟨c84,_,rfl,(Cx.le.refl _),O86,cm ⟨rfl,rfl,rfl,rfl,rfl,rfl,rfl,rfl,rfl,trivial⟩⟩
          ·skip;obtain rfl:=anF h103 h102;refine vb h103 ?_;refine ps ?_;refine ps ?_;refine ps ?_;refine ps ?_;refine ps ?_;refine wn ?_;refine va (.bool false) ?_;obtain rfl:=aq H101;refine va (.bool false) ?_;refine wln ?_;exact ⟨c84,_,rfl,(Cx.le.refl _),O86,cm ⟨rfl,rfl,rfl,rfl,rfl,rfl,rfl,rfl,rfl,trivial⟩⟩
        ·skip;rintro e_ w_ ⟨c105,g106,rfl,l105,O107,rfl⟩;refine nrm ?_;refine W.cond (t:=d_70) (by kernel_rfl) (fun h111=>?_) (fun h111=>?_)
         ·have H91:=it h111 H91;refine W.region ?_;refine va (.int .i64 s_57.2) ?_;refine va (.int .i64 s_57.2) ?_;refine WL.nil ?_;refine bkn ?_;refine nrm ?_;obtain rfl:=aq H91;exact ⟨c105,_,rfl,l105,O107,cm ⟨rfl,rfl,rfl,rfl,rfl,rfl,rfl,rfl,trivial⟩⟩
         ·have H91:=ie h111 H91;refine W.skip ?_;refine bkn ?_;refine nrm ?_;obtain rfl:=aq H91;exact ⟨c105,_,rfl,l105,O107,cm ⟨rfl,rfl,rfl,rfl,rfl,rfl,rfl,rfl,trivial⟩⟩
       ·skip;rintro e_ w_ ⟨c112,g113,rfl,l112,O114,rfl⟩;refine W.region ?_;refine va (.int .i64 s_57.2) ?_;refine va (.int .i64 (w64 (s_57.2+1))) ?_;refine va (.int .i64 (w64 (s_57.2+1))) ?_;refine WL.nil ?_;obtain rfl:=aq H92;refine ⟨_,rfl,?_⟩;exact ⟨c112,_,rfl,(l84.trans l112),O114,cm ⟨rfl,rfl,rfl,rfl,rfl,rfl,rfl,rfl,trivial⟩⟩
      ·have H29:=ie h90 H29;refine W.exit ?_;refine thx ?_;obtain rfl:=aq H29;refine ⟨_,rfl,rfl,?_⟩;exact ⟨c84,_,rfl,l84,O86,cm ⟨rfl,rfl,rfl,rfl,rfl,rfl,rfl,trivial⟩⟩
     ·skip;exact ⟨c76,_,rfl,(Cx.le.refl _),O78,cm ⟨rfl,rfl,rfl,rfl,rfl,rfl,rfl,rfl,trivial⟩⟩
     ·skip;rintro _ e_ w_ ⟨rfl,c118,g119,rfl,l118,O120,rfl⟩;refine bke ?_;refine nrm ?_;refine sr ?_;refine va (v32) ?_;refine WL.val0 (v:= .int .i64 (z_21.length:Int)) rfl (rx (by kernel_rfl) (by rw [←N1.len]; exact rB (ty:=3) Tryz.underlying45 (N1.2.1.mono (l76.trans l118)) _)) ?_;refine va (.int .i64 (w64 ((z_21.length:Int) - 1))) ?_;refine va (.int .i64 (w64 ((z_21.length:Int) - 1))) ?_;refine wln ?_;refine sr ?_;refine va (.int .i64 0) ?_;refine wln ?_;refine W.block ?_;obtain ⟨o_95,h124,H125⟩:=bs H83;refine W.loop (σ:=(List (List Int))×Int) (τ:=List (List Int)) (fun s_95=>fun e w=>∃(c:Cx) (g:Nat→Value) (v126:Value) (u127:List Value) (v128:Value) (u129:List Value) (cu2:List Int) (hs2:List Value),w=c.w∧c118.le c∧Own c G (es true (RI .i32) v126 21 u127 cu2 :: es true R_V v128 34 u129 hs2 :: F)∧e=ups g [(1,.pointer (some ⟨b6,0,none⟩)),(3,v128),(4,.int .i64 (p0.Lines.length:Int)),(5,.bool d_45),(6,.int .i64 s_16.2.2),(7,v65),(8,.int .i64 o_57),(10,.int .i64 (w64 ((z_21.length:Int) - 1))),(11,.int .i64 s_95.2)]∧NS c v126 u127 cu2 v128 u129 hs2 s_95.1∧s_95.1.length=z_21.length) (fun o_95_ ex e w=>ex= .exit 4∧(fun e w=>∃(c:Cx) (g:Nat→Value) (v130:Value) (u131:List Value) (v132:Value) (u133:List Value) (cu3:List Int) (hs3:List Value),w=c.w∧c118.le c∧Own c G (es true (RI .i32) v130 21 u131 cu3 :: es true R_V v132 34 u133 hs3 :: F)∧e=ups g [(1,.pointer (some ⟨b6,0,none⟩)),(3,v132),(4,.int .i64 (p0.Lines.length:Int)),(5,.bool d_45),(6,.int .i64 s_16.2.2)]∧NS c v130 u131 cu3 v132 u133 hs3 o_95_) e w) ?_ h124 ?_ ?_
      ·clear H125 h124;intro s_95 xx_ ee_ ww_ H83;revert ee_ ww_;rintro e_ w_ ⟨c134,g135,v126,u127,v128,u129,cu2,hs2,rfl,l134,O136,rfl,N2,Z2⟩;refine W.seq ?_;refine sr ?_;refine va (.int .i64 s_95.2) ?_;refine va (.int .i64 o_57) ?_;refine va (.bool (decide (s_95.2≤o_57))) ?_;refine wln ?_;refine W.cond (t:=decide (s_95.2≤o_57)) (by kernel_rfl) (fun h142=>?_) (fun h142=>?_)
       ·have H83:=it h142 H83;refine W.skip ?_;refine nrm ?_;obtain ⟨z_100,H143,H144⟩:=bs H83;refine W.seqJ (fun e w=>∃(c:Cx) (g:Nat→Value) (v145:Value) (u146:List Value) (v147:Value) (u148:List Value) (cu4:List Int) (hs4:List Value),w=c.w∧c134.le c∧Own c G (es true (RI .i32) v145 21 u146 cu4 :: es true R_V v147 34 u148 hs4 :: F)∧e=ups g [(1,.pointer (some ⟨b6,0,none⟩)),(3,v147),(4,.int .i64 (p0.Lines.length:Int)),(5,.bool d_45),(6,.int .i64 s_16.2.2),(7,v65),(8,.int .i64 o_57),(10,.int .i64 (w64 ((z_21.length:Int) - 1))),(11,.int .i64 s_95.2)]∧NS c v145 u146 cu4 v147 u148 hs4 z_100∧z_100.length=z_21.length) ?_ ?_
        ·skip;refine W.block ?_;obtain ⟨z_101,H149,H150⟩:=bs H143;refine W.seqJ (fun e w=>∃(c:Cx) (g:Nat→Value) (v151:Value) (u152:List Value) (v153:Value) (u154:List Value) (cu5:List Int) (hs5:List Value),w=c.w∧c134.le c∧Own c G (es true (RI .i32) v151 21 u152 cu5 :: es true R_V v153 34 u154 hs5 :: F)∧e=ups g [(1,.pointer (some ⟨b6,0,none⟩)),(3,v153),(4,.int .i64 (p0.Lines.length:Int)),(5,.bool d_45),(6,.int .i64 s_16.2.2),(7,v65),(8,.int .i64 o_57),(10,.int .i64 (w64 ((z_21.length:Int) - 1))),(11,.int .i64 s_95.2)]∧NS c v151 u152 cu5 v153 u154 hs5 z_101∧z_101.length=z_21.length) ?_ ?_
         ·skip;refine sr ?_;refine va (v65) ?_;refine va (.int .i64 s_95.2) ?_;obtain ⟨x_104,h155,H149⟩:=bs H149;obtain ⟨l_156,h157,m158⟩:=Sl.at (h66.mono (l76.trans (l118.trans l134))) (bi h155);obtain ⟨v159,rfl,h160⟩:=h157;refine WL.val0 (v:= .pointer (some ⟨sb v65,so v65+s_95.2.toNat * 2,none⟩)) rfl (rx (by kernel_rfl) (jL (k:= .i64) Tryz.underlying37 (by kernel_rfl) (h66.mono (l76.trans (l118.trans l134))) h155 _)) ?_;refine va (.pointer (some ⟨sb v65,so v65+s_95.2.toNat * 2,none⟩)) ?_;refine WL.val0 (v:= .int .i64 x_104.Kind) rfl (rx (by kernel_rfl) (ic Tryz.underlying3 rfl (m158 0 _ rfl))) ?_;refine va (.bool (x_104.Kind==0)) ?_;refine wln ?_;refine W.cond (t:=x_104.Kind==0) (by kernel_rfl) (fun h161=>?_) (fun h161=>?_)
          ·have H149:=it h161 H149;refine W.region ?_;refine va (v128) ?_;refine va (.int .i64 (w64 ((z_21.length:Int) - 1))) ?_;refine va (v128) ?_;refine va (.int .i64 (w64 ((z_21.length:Int) - 1))) ?_;obtain ⟨x_113,h162,H149⟩:=bs H149;obtain ⟨rfl,i1,i2⟩:=N2.last Z2 h162;refine WL.val0 (v:= .pointer (some ⟨sb v128,(w64 ((z_21.length:Int) - 1)).toNat * 1,none⟩)) rfl (rx (by kernel_rfl) (kn (k:= .i64) Tryz.underlying45 (by kernel_rfl) N2.2.1 i1 _)) ?_;obtain ⟨l_163,h164,m165⟩:=OA.at N2.2.1 i1;obtain ⟨rfl,_⟩:=h164;refine WL.val0 (v:=v126) rfl (rx (by kernel_rfl) (my Tryz.underlying34 rfl (O136.on 1 rfl) (N2.2.1.blk i1) (at1 (j:=0) m165 rfl))) ?_;refine WL.mem rfl (Own.sl (R:=(RI .i32)) (E:=21) (ls:=[[.int .i32 32]]) (vs:=[.int .i32 32]) (xs:=([32]:List Int)) true O136 (aK _) rfl ⟨rfl,trivial⟩ (by kernel_rfl) (by kernel_rfl)) ?_;rintro v170 c169 l169 ⟨u167,O166,h168⟩;obtain ⟨c173,h174,l173,O171,h172⟩:=O166.frz 0 rfl h168;refine WL.gh h174 ?_;obtain ⟨x_117,h175,H149⟩:=bs H149;refine WL.mem rfl (Own.app (R:=(RI .i32)) (z:= .int .i32 0) (by_:=4) (ty:=34) 1 O171 rfl (N2.1.mono (l169.trans l173)) h172 h175 Tryz.underlying34 (by kernel_rfl) rfl (by kernel_rfl) (by kernel_rfl)) ?_;rintro v180 c179 l179 ⟨u177,O176,h178⟩;refine WL.val0 (v:= .pointer (some ⟨sb v128,(w64 ((z_21.length:Int) - 1)).toNat * 1,none⟩)) rfl (rx (by kernel_rfl) (kn (k:= .i64) Tryz.underlying45 (by kernel_rfl) (N2.2.1.mono (l169.trans (l173.trans l179))) i1 _)) ?_;obtain ⟨w_119,h182,H149⟩:=bs H149;obtain ⟨hs',s1,s2⟩:=i2 v180;have q180:=h178.one;obtain ⟨y1,y2,y3,rfl⟩:=h178.form;refine WL.memD rfl (Own.stW (R:=R_V) (T:=34) (us:=[.slice y1 y2 y3]) (x':= .slice y1 y2 y3) (u:= .slice y1 y2 y3) 2 O176 (by kernel_rfl) rfl (N2.2.1.mono (l169.trans (l173.trans l179))) s1 rfl (by kernel_rfl) ⟨q180,trivial⟩ rfl ⟨rfl,q180⟩) ?_;rintro c186 l186 ⟨u184,O183,h185⟩;refine wln ?_;obtain rfl:=aq H149;have O187:=O183.selD 3 [1,2] (by kernel_rfl) (by kernel_rfl);exact ⟨c186,_,_,u177,v128,u184,_,_,rfl,(l169.trans (l173.trans (l179.trans l186))),O187,cm ⟨rfl,rfl,rfl,rfl,rfl,rfl,rfl,rfl,rfl,trivial⟩,s2 _ _ _ _ _ _ h182 (l169.trans (l173.trans (l179.trans l186))) (h178.mono l186) h185⟩
          ·have H149:=ie h161 H149;refine W.skip ?_;refine nrm ?_;obtain rfl:=aq H149;exact ⟨c134,_,v126,u127,v128,u129,cu2,hs2,rfl,(Cx.le.refl _),O136,cm ⟨rfl,rfl,rfl,rfl,rfl,rfl,rfl,rfl,rfl,trivial⟩,N2,Z2⟩
         ·skip;rintro e_ w_ ⟨c188,g189,v151,u152,v153,u154,cu5,hs5,rfl,l188,O190,rfl,N5,Z5⟩;refine W.seq ?_;obtain ⟨x_124,h196,H150⟩:=bs H150;obtain ⟨d_128,h197,H150⟩:=bs H150;refine W.join (fun e w=>∃(c:Cx) (g:Nat→Value),w=c.w∧c188.le c∧Own c G (es true (RI .i32) v151 21 u152 cu5 :: es true R_V v153 34 u154 hs5 :: F)∧e=ups g [(1,.pointer (some ⟨b6,0,none⟩)),(3,v153),(4,.int .i64 (p0.Lines.length:Int)),(5,.bool d_45),(6,.int .i64 s_16.2.2),(7,v65),(8,.int .i64 o_57),(10,.int .i64 (w64 ((z_21.length:Int) - 1))),(11,.int .i64 s_95.2),(102,.bool d_128)]) ?_ ?_
          ·clear H150;refine W.region ?_;refine va (v65) ?_;refine va (.int .i64 s_95.2) ?_;obtain ⟨l_198,h199,m200⟩:=Sl.at (h66.mono (l76.trans (l118.trans (l134.trans l188)))) (bi h196);obtain ⟨v201,rfl,h202⟩:=h199;refine WL.val0 (v:= .pointer (some ⟨sb v65,so v65+s_95.2.toNat * 2,none⟩)) rfl (rx (by kernel_rfl) (jL (k:= .i64) Tryz.underlying37 (by kernel_rfl) (h66.mono (l76.trans (l118.trans (l134.trans l188)))) h196 _)) ?_;refine va (.pointer (some ⟨sb v65,so v65+s_95.2.toNat * 2,none⟩)) ?_;refine WL.val0 (v:= .int .i64 x_124.Kind) rfl (rx (by kernel_rfl) (ic Tryz.underlying3 rfl (m200 0 _ rfl))) ?_;refine va (.bool (x_124.Kind==1)) ?_;rcases fR (x_124.Kind==1) with h203 | h203
           ·skip;obtain rfl:=orT h203 h197;refine vb h203 ?_;refine ps ?_;refine ps ?_;refine ps ?_;refine ps ?_;refine ps ?_;refine ps ?_;refine va (.bool true) ?_;refine wln ?_;exact ⟨c188,_,rfl,(Cx.le.refl _),O190,cm ⟨rfl,rfl,rfl,rfl,rfl,rfl,rfl,rfl,rfl,rfl,trivial⟩⟩
           ·skip;have H204:=orF h203 h197;refine vb h203 ?_;refine wn ?_;refine va (v65) ?_;refine wn ?_;refine va (.int .i64 s_95.2) ?_;refine wn ?_;obtain ⟨x_132,h205,H204⟩:=bs H204;obtain ⟨l_206,h207,m208⟩:=Sl.at (h66.mono (l76.trans (l118.trans (l134.trans l188)))) (bi h205);obtain ⟨v209,rfl,h210⟩:=h207;refine WL.val0 (v:= .pointer (some ⟨sb v65,so v65+s_95.2.toNat * 2,none⟩)) rfl (rx (by kernel_rfl) (jL (k:= .i64) Tryz.underlying37 (by kernel_rfl) (h66.mono (l76.trans (l118.trans (l134.trans l188)))) h205 _)) ?_;refine wn ?_;refine va (.pointer (some ⟨sb v65,so v65+s_95.2.toNat * 2,none⟩)) ?_;refine wn ?_;refine WL.val0 (v:= .int .i64 x_132.Kind) rfl (rx (by kernel_rfl) (ic Tryz.underlying3 rfl (m208 0 _ rfl))) ?_;refine wn ?_;refine va (.bool (x_132.Kind==2)) ?_;obtain rfl:=aq H204;refine va (.bool (x_132.Kind==2)) ?_;refine wln ?_;exact ⟨c188,_,rfl,(Cx.le.refl _),O190,cm ⟨rfl,rfl,rfl,rfl,rfl,rfl,rfl,rfl,rfl,rfl,trivial⟩⟩
          ·skip;rintro e_ w_ ⟨c211,g212,rfl,l211,O213,rfl⟩;refine nrm ?_;refine W.cond (t:=d_128) (by kernel_rfl) (fun h217=>?_) (fun h217=>?_)
           ·have H150:=it h217 H150;refine W.regionD [13] (Kp G0 [es true R_V v153 34 u154 hs5]) O213 (by kernel_rfl) ?_;intro c218 l218 O219;have p220:Kp G0 [es true R_V v153 34 u154 hs5] c218:=(Kp.cons (O219.on 1 rfl) Kp.nil0);refine ta 0 (v153) ?_;refine ta 1 (.int .i64 (w64 ((z_21.length:Int) - 1))) ?_;refine ta 2 (v153) ?_;refine ta 3 (.int .i64 (w64 ((z_21.length:Int) - 1))) ?_;obtain ⟨x_141,h221,H150⟩:=bs H150;have N7:=N5.mono (l211.trans l218);obtain ⟨rfl,i1,i2⟩:=N7.last Z5 h221;refine AC.take 4 (.pointer (some ⟨sb v153,(w64 ((z_21.length:Int) - 1)).toNat * 1,none⟩)) rfl (by kernel_rfl) (by kernel_rfl) (fun c' hle=>(rx (by kernel_rfl) (kn (k:= .i64) Tryz.underlying45 (by kernel_rfl) N7.2.1 i1 _))) ?_;obtain ⟨l_222,h223,m224⟩:=OA.at N7.2.1 i1;obtain ⟨rfl,_⟩:=h223;refine AC.takeK 5 (v151) p220 rfl (by kernel_rfl) (by kernel_rfl) (by kernel_rfl) (fun c' hle hk=>(rx (by kernel_rfl) (my Tryz.underlying34 rfl (hk.on 0 rfl) (N7.2.1.blk i1) (at1 (j:=0) m224 rfl)))) ?_;refine ta 6 (v65) ?_;refine ta 7 (.int .i64 s_95.2) ?_;obtain ⟨x_145,h225,H150⟩:=bs H150;obtain ⟨l_226,h227,m228⟩:=Sl.at (h66.mono (l76.trans (l118.trans (l134.trans (l188.trans (l211.trans l218)))))) (bi h225);obtain ⟨v229,rfl,h230⟩:=h227;refine AC.take 8 (.pointer (some ⟨sb v65,so v65+s_95.2.toNat * 2,none⟩)) rfl (by kernel_rfl) (by kernel_rfl) (fun c' hle=>(rx (by kernel_rfl) (jL (k:= .i64) Tryz.underlying37 (by kernel_rfl) (h66.mono (l76.trans (l118.trans (l134.trans (l188.trans (l211.trans l218)))))) h225 _))) ?_;refine ta 9 (.pointer (some ⟨sb v65,so v65+s_95.2.toNat * 2+1,none⟩)) ?_;refine AC.take 10 (v229) rfl (by kernel_rfl) (by kernel_rfl) (fun c' hle=>(rx (by kernel_rfl) (ic Tryz.underlying34 rfl ((fun j u hu=>(m228 j u hu).mono hle) 1 _ rfl)))) ?_;obtain ⟨x_148,h231,H150⟩:=bs H150;refine AC.one 11 (by kernel_rfl) (Go1.mem 11 rfl (by kernel_rfl) (by kernel_rfl) (Own.app (R:=(RI .i32)) (z:= .int .i32 0) (by_:=4) (ty:=34) 0 O219 rfl N7.1 h230 h231 Tryz.underlying34 (by kernel_rfl) rfl (by kernel_rfl) (by kernel_rfl)) ?_);rintro v236 c235 l235 ⟨u233,O232,h234⟩;have p237:Kp G0 [es true R_V v153 34 u154 hs5] c235:=(Kp.cons (O232.on 1 rfl) Kp.nil0);refine ⟨.inr p237,?_⟩;refine AC.take 12 (.pointer (some ⟨sb v153,(w64 ((z_21.length:Int) - 1)).toNat * 1,none⟩)) rfl (by kernel_rfl) (by kernel_rfl) (fun c' hle=>(rx (by kernel_rfl) (kn (k:= .i64) Tryz.underlying45 (by kernel_rfl) (N7.2.1.mono l235) i1 _))) ?_;obtain ⟨w_150,h239,H150⟩:=bs H150;obtain ⟨hs',s1,s2⟩:=i2 v236;have q236:=h234.one;obtain ⟨y1,y2,y3,rfl⟩:=h234.form;refine AC.one 13 (by kernel_rfl) (Go1.memD 13 rfl (by kernel_rfl) (by kernel_rfl) (Own.stW (R:=R_V) (T:=34) (us:=[.slice y1 y2 y3]) (x':= .slice y1 y2 y3) (u:= .slice y1 y2 y3) 1 O232 (by kernel_rfl) rfl (N7.2.1.mono l235) s1 rfl (by kernel_rfl) ⟨q236,trivial⟩ rfl ⟨rfl,q236⟩) ?_);rintro c243 l243 ⟨u241,O240,h242⟩;refine ⟨.inl rfl,?_⟩;refine AC.done (by kernel_rfl) ?_;refine bkn ?_;refine nrm ?_;obtain rfl:=aq H150;exact ⟨c243,_,_,u233,v153,u241,_,_,rfl,(l188.trans (l211.trans (l218.trans (l235.trans l243)))),O240,cm ⟨rfl,rfl,rfl,rfl,rfl,rfl,rfl,rfl,rfl,trivial⟩,s2 _ _ _ _ _ _ h239 (l235.trans l243) (h234.mono l243) h242⟩
           ·have H150:=ie h217 H150;refine W.skip ?_;refine bkn ?_;refine nrm ?_;obtain rfl:=aq H150;exact ⟨c211,_,v151,u152,v153,u154,cu5,hs5,rfl,(l188.trans l211),O213,cm ⟨rfl,rfl,rfl,rfl,rfl,rfl,rfl,rfl,rfl,trivial⟩,N5.mono l211,Z5⟩
        ·skip;rintro e_ w_ ⟨c240,g241,v145,u146,v147,u148,cu4,hs4,rfl,l240,O242,rfl,N4,Z4⟩;refine W.region ?_;refine va (.int .i64 s_95.2) ?_;refine va (.int .i64 (w64 (s_95.2+1))) ?_;refine va (.int .i64 (w64 (s_95.2+1))) ?_;refine WL.nil ?_;obtain rfl:=aq H144;refine ⟨_,rfl,?_⟩;exact ⟨c240,_,v145,u146,v147,u148,cu4,hs4,rfl,(l134.trans l240),O242,cm ⟨rfl,rfl,rfl,rfl,rfl,rfl,rfl,rfl,rfl,trivial⟩,N4,Z4⟩
       ·have H83:=ie h142 H83;refine W.exit ?_;refine thx ?_;obtain rfl:=aq H83;refine ⟨_,rfl,rfl,?_⟩;exact ⟨c134,_,v126,u127,v128,u129,cu2,hs2,rfl,l134,O136,cm ⟨rfl,rfl,rfl,rfl,rfl,trivial⟩,N2⟩
      ·skip;exact ⟨c118,_,v30,u31,v32,u33,cu1,hs1,rfl,(Cx.le.refl _),O120,cm ⟨rfl,rfl,rfl,rfl,rfl,rfl,rfl,rfl,rfl,trivial⟩,N1.mono (l76.trans l118),rfl⟩
      ·skip;rintro _ e_ w_ ⟨rfl,c248,g249,v130,u131,v132,u133,cu3,hs3,rfl,l248,O250,rfl,N3⟩;refine bke ?_;refine bkn ?_;refine nrm ?_;refine W.region ?_;refine va (.int .i64 s_16.2.2) ?_;refine va (.int .i64 (w64 (s_16.2.2+1))) ?_;refine va (.int .i64 (w64 (s_16.2.2+1))) ?_;refine WL.nil ?_;obtain rfl:=aq H125;refine ⟨_,rfl,?_⟩;exact ⟨c248,_,v130,u131,v132,u133,cu3,hs3,rfl,(l19.trans (l53.trans (l76.trans (l118.trans l248)))),O250,cm ⟨rfl,rfl,rfl,rfl,rfl,trivial⟩,N3⟩
  ·have H:=ie h27 H;refine W.exit ?_;refine thx ?_;obtain rfl:=aq H;refine ⟨_,rfl,rfl,?_⟩;exact ⟨c19,_,v13,u14,v15,u16,cu0,hs0,rfl,l19,O21,cm ⟨rfl,trivial⟩,N0⟩
 ·skip;have O257:=O7.addHole (e:=es true R_V (.slice none 0 0) 34 [] ([]:List Value)) rfl;have O259:=O257.addHole (e:=es true (RI .i32) (.slice none 0 0) 21 [] ([]:List Int)) rfl;exact ⟨c9,_,(.slice none 0 0),[],(.slice none 0 0),[],[],[],rfl,(Cx.le.refl _),O259,cm ⟨rfl,rfl,rfl,rfl,rfl,trivial⟩,NS.none0 _⟩
 ·skip;rintro _ e_ w_ ⟨rfl,c262,g263,vc,uc,v17,u18,cu6,hs6,rfl,l262,O264,rfl,N6⟩;refine bke ?_;refine nrm ?_;refine sr ?_;obtain ⟨c70,e70,l70,O70,h70⟩:=O264.frz 0 rfl N6.1;have O71:=O70.tail;refine WL.gh e70 ?_;refine va (v17) ?_;refine va (v17) ?_;refine wln ?_;refine W.ret ?_;obtain rfl:=aq H12;exact Be (v:=v17) rfl (by kernel_rfl) ⟨_,c70,rfl,rfl,(l9.trans (l262.trans l70)),v17,u18,O71,rfl,N6.all l70 h70⟩
end Go.Proofs.YtidapncdmjppeaaGreatDoor
