/- Parts of the proofs of ConsoleGoesOn: the walk through the code, and plain Lean. No condition. -/
import Derived.WalkKit
import Derived.KernelRfl
import Derived.TacticsIn
import Derived.LoopNIn
import Derived.OrdersIn
import Derived.Laws.BytesString
import Derived.Laws.Concat
import Derived.Laws.Strings
import Derived.Laws.Strings2
import Derived.Laws.Strings3
import Derived.Laws.Slices
import Derived.Lib.ConvBytes
import Derived.Test.YtceciacilfhmjaaGreatDoorProg
import Derived.Shelf.Strings.Split
import Derived.Shelf.Strings.Cut
import Derived.Shelf.Strings.SlTrimAscii
import Derived.Shelf.Small.Wraps
import Derived.Shelf.Small.Strs
import Derived.Lib.ItoaMem
import Derived.Lib.LaidTab
import Derived.Shelf.Strconv.Itoa3
import Derived.Shelf.Strconv.Atoi
import Derived.Shelf.Strings.OnBuilder
import Derived.Maps.Own
import Derived.RangeFuncSeq
import Derived.Lib.AppendStr
import Derived.Lib.UnsafeStr
import Derived.LaidEql
import Derived.Stop.Asserts
import Derived.RowKitTokens
import Derived.Elder7
set_option linter.unusedVariables false
set_option linter.unusedSimpArgs false
abbrev dp:=@Go.Addr.add_lit
abbrev LK:=@Array.empty_append
abbrev LJ:=@Array.ext'
abbrev LI:=@Array.foldl_toList
abbrev ck:=@Array.getD_eq_getD_getElem?
abbrev kJ:=@Array.getElem?_eq_none
abbrev iV:=@Array.getElem?_modify
abbrev xL:=@Array.length_toList
abbrev LS:=@Array.size_append
abbrev xK:=@Array.toList_append
abbrev Cn:=@Array.toList_map
abbrev Le:=@BitVec.ofInt_natCast
abbrev L3:=@BitVec.toNat_and
abbrev LH:=@BitVec.toNat_ofInt
abbrev LG:=@BitVec.toNat_ofNat
abbrev Kd:=@Bool.and_eq_false_iff
abbrev an:=@Bool.and_eq_true
abbrev GU:=@Bool.and_false
abbrev IF:=@Bool.and_self
abbrev IE:=@Bool.and_true
abbrev da:=@Bool.eq_iff_iff
abbrev qS:=@Bool.false_and
abbrev am:=@Bool.false_eq_true
abbrev kY:=@Bool.false_or
abbrev L0:=@Bool.not_eq_true
abbrev dQ:=@Bool.not_eq_true'
abbrev kq:=@Bool.not_false
abbrev eK:=@Bool.not_true
abbrev xh:=@Bool.or_eq_false_iff
abbrev aC:=@Bool.or_eq_true
abbrev gG:=@Bool.true_and
abbrev pW:=@Go.ByteArray.toList_eq
abbrev rz:=@Classical.byContradiction
abbrev GT:=@Eq.trans
abbrev GW:=@Go.ChangeMaps.open_string
abbrev oD:=@Iff.rfl
abbrev qR:=@Int.fdiv_eq_ediv_of_nonneg
abbrev Ld:=@Int.le_refl
abbrev LF:=@Int.natCast_nonneg
abbrev J6:=@Int.ofNat_lt
abbrev bp:=@Int.toNat_natCast
abbrev pV:=@Int.toNat_of_nonneg
abbrev Cm:=@Go.IntKind.wrap_i64
abbrev LZ:=@Go.IntKind.wrap_u64
abbrev mo:=@List.all_eq_true
abbrev aD:=@List.append_assoc
abbrev J5:=@List.append_inj_right'
abbrev eP:=@List.append_nil
abbrev Ew:=@List.cons.injEq
abbrev bD:=@List.cons_append
abbrev LX:=@List.cons_ne_nil
abbrev Kc:=@List.contains_iff_mem
abbrev Lc:=@List.count_cons_self
abbrev xg:=@List.count_le_length
abbrev Ev:=@List.dropLast_concat_getLast
abbrev GS:=@List.dropWhile_cons_of_neg
abbrev GR:=@List.dropWhile_cons_of_pos
abbrev kH:=@List.drop_append_of_le_length
abbrev de:=@List.drop_drop
abbrev mu:=@List.drop_eq_getElem_cons
abbrev eJ:=@List.drop_left
abbrev J4:=@List.drop_of_length_le
abbrev gN:=@List.drop_take
abbrev iT:=@List.drop_zero
abbrev aW:=@List.eq_nil_of_length_eq_zero
abbrev LW:=@List.ext_getElem
abbrev dy:=@List.ext_getElem?
abbrev Lj:=@List.flatMap_append
abbrev Bo:=@List.flatMap_cons
abbrev Li:=@List.flatten_append
abbrev rU:=@List.flatten_cons
abbrev rT:=@List.foldl_append
abbrev Eu:=@List.foldl_cons
abbrev aw:=@List.getD_eq_getElem?_getD
abbrev gM:=@List.getElem?_append
abbrev aG:=@List.getElem?_append_left
abbrev aV:=@List.getElem?_append_right
abbrev fk:=@List.getElem?_cons_succ
abbrev fj:=@List.getElem?_cons_zero
abbrev bH:=@List.getElem?_drop
abbrev ah:=@List.getElem?_eq_getElem
abbrev bI:=@List.getElem?_eq_none
abbrev dx:=@List.getElem?_map
abbrev pU:=@List.getElem?_range
abbrev Lb:=@List.getElem?_range'
abbrev tG:=@List.getElem?_replicate
abbrev aT:=@List.getElem?_set_ne
abbrev be:=@List.getElem?_set_self
abbrev aK:=@List.getElem?_take
abbrev bj:=@List.getElem?_toArray
abbrev ux:=@List.getElem_cons_succ
abbrev uw:=@List.getElem_cons_zero
abbrev dv:=@List.getElem_map
abbrev aF:=@List.getElem_mem
abbrev zE:=@List.getElem_range
abbrev fS:=@List.getElem_replicate
abbrev Kb:=@List.getElem_set_self
abbrev LR:=@List.getElem_take
abbrev L7:=@List.head?_cons
abbrev LQ:=@List.isEmpty_cons
abbrev GV:=@List.isEmpty_eq_false_iff
abbrev ag:=@List.length_append
abbrev ak:=@List.length_cons
abbrev aN:=@List.length_drop
abbrev aQ:=@List.length_map
abbrev aB:=@List.length_nil
abbrev dO:=@List.length_replicate
abbrev cf:=@List.length_set
abbrev bi:=@List.length_singleton
abbrev av:=@List.length_take
abbrev bb:=@List.map_append
abbrev dm:=@List.map_congr_left
abbrev dL:=@List.map_cons
abbrev np:=@List.map_id
abbrev fR:=@List.map_map
abbrev Bn:=@List.map_nil
abbrev zD:=@List.map_singleton
abbrev uU:=@List.mem_append
abbrev fi:=@List.mem_append_left
abbrev oo:=@List.mem_append_right
abbrev cq:=@List.mem_cons
abbrev gL:=@List.mem_cons_of_mem
abbrev La:=@List.mem_of_getElem?
abbrev jD:=@List.mem_of_mem_drop
abbrev ej:=@List.mem_of_mem_take
abbrev Bm:=@List.mem_range'_1
abbrev eQ:=@List.mem_singleton
abbrev bq:=@List.nil_append
abbrev cC:=@List.not_mem_nil
abbrev LD:=@List.range'_concat
abbrev L6:=@List.range_succ
abbrev K9:=@List.replicate_succ'
abbrev vn:=@List.set_append_right
abbrev zC:=@List.set_cons_zero
abbrev Ka:=@List.set_getElem_self
abbrev nP:=@List.size_toArray
abbrev js:=@List.sum_append
abbrev jR:=@List.sum_cons
abbrev Cl:=@List.take_append
abbrev iU:=@List.take_append_drop
abbrev eu:=@List.take_append_of_le_length
abbrev nO:=@List.take_left
abbrev Es:=@List.take_left'
abbrev cZ:=@List.take_length
abbrev aJ:=@List.take_of_length_le
abbrev Lh:=@List.take_replicate
abbrev Lg:=@List.take_succ_cons
abbrev ay:=@List.take_succ_eq_append_getElem
abbrev iS:=@List.take_take
abbrev mh:=@List.take_zero
abbrev zB:=@List.zip_cons_cons
abbrev sx:=@Nat.add_assoc
abbrev fh:=@Nat.add_mul
abbrev LC:=@Nat.add_sub_cancel
abbrev nN:=@Nat.add_zero
abbrev Ck:=@Nat.and_two_pow_sub_one_eq_mod
abbrev lj:=@Nat.ble_eq_true_of_le
abbrev J9:=@Nat.div_lt_iff_lt_mul
abbrev L5:=@Nat.div_lt_self
abbrev om:=@Nat.eq_of_beq_eq_true
abbrev iR:=@Nat.eq_zero_or_pos
abbrev bh:=@Nat.le_of_ble_eq_true
abbrev ao:=@Nat.le_refl
abbrev K8:=@Nat.le_succ
abbrev nM:=@Nat.le_succ_of_le
abbrev cQ:=@Nat.le_trans
abbrev ei:=@Nat.lt_of_lt_of_le
abbrev aR:=@Nat.lt_or_ge
abbrev LB:=@Nat.lt_or_gt_of_ne
abbrev Dd:=@Nat.min_def
abbrev cH:=@Nat.min_eq_left
abbrev Cj:=@Nat.mod_eq_of_lt
abbrev uv:=@Nat.mod_lt
abbrev J3:=@Nat.mul_comm
abbrev GQ:=@Nat.mul_le_mul
abbrev jC:=@Nat.mul_le_mul_right
abbrev Dc:=@Nat.mul_one
abbrev Ep:=@Nat.not_lt_zero
abbrev mg:=@Nat.one_mul
abbrev J2:=@Nat.pow_succ
abbrev uu:=@Nat.sub_self
abbrev qb:=@Nat.sub_zero
abbrev aI:=@Nat.succ_pos
abbrev ep:=@Nat.zero_add
abbrev cR:=@Nat.zero_le
abbrev ut:=@Nat.zero_mul
abbrev rS:=@Ne.symm
abbrev ID:=@Go.Oper.semAt_eq
abbrev LP:=@Go.Oper.uponIn_value
abbrev Bl:=@Option.bind_assoc
abbrev tF:=@Option.bind_some
abbrev LV:=@Option.getD_some
abbrev bO:=@Option.isNone_some
abbrev jr:=@Option.map_some
abbrev aH:=@Option.some.inj
abbrev az:=@Option.some.injEq
abbrev Db:=@Prod.mk.inj
abbrev gE:=@Prod.mk.injEq
abbrev nL:=@Go.Result.andThen_ok
abbrev bM:=@Go.RowKit.Below.heap_alloc
abbrev gV:=@Go.RowKit.Below.refl
abbrev GP:=@Go.RowKit.frozen?_alloc_cells
abbrev gA:=@Go.Sem.run_bind
abbrev Bk:=@Go.Sem.run_pure
abbrev sv:=@Sum.inl.injEq
abbrev gK:=@Go.World.cell?_alloc_lt
abbrev bZ:=@Go.World.cell?_of_block
abbrev nn:=@Go.World.frozen?_alloc_old
abbrev LA:=@Go.World.keptBut_mono
abbrev uT:=@Go.World.var?_cell
abbrev tD:=@and_true
abbrev bN:=@beq_eq_false_iff_ne
abbrev aA:=@beq_iff_eq
abbrev Cb:=@beq_self_eq_true
abbrev qQ:=@bne_iff_ne
abbrev JU:=@Go.callsIn_wide
abbrev fg:=@Go.cell_of_row
abbrev Lx:=@cond_false
abbrev dG:=@congrArg
abbrev LU:=@decide_eq_decide
abbrev jq:=@decide_eq_false
abbrev dX:=@decide_eq_false_iff_not
abbrev bA:=@decide_eq_true
abbrev ai:=@decide_eq_true_eq
abbrev rL:=@decide_true
abbrev pY:=@dif_neg
abbrev rK:=@dif_pos
abbrev Ls:=@Go.execOp_put
abbrev BU:=@ge_iff_le
abbrev KJ:=@Go.getD_set_ne
abbrev wA:=@Go.grownCap_ge
abbrev nf:=@Go.grownCap_le_maxLen
abbrev FT:=@Go.growslice_fits
abbrev qv:=@Go.heap_alloc_new
abbrev aU:=@if_false
abbrev ab:=@if_neg
abbrev af:=@if_pos
abbrev bG:=@if_true
abbrev LN:=@ne_eq
abbrev Jq:=@not_and
abbrev rG:=@not_false_eq_true
abbrev Jp:=@not_or
abbrev Lr:=@of_decide_eq_false
abbrev Ak:=@of_decide_eq_true
abbrev ju:=@or_false
abbrev Lp:=@Go.ready_mono
abbrev L4:=@Go.run_append_room
abbrev LL:=@Go.run_bytesToString
abbrev cI:=@Go.run_callFunc_extern
abbrev Lf:=@Go.run_firstCells_some
abbrev yH:=@Go.run_sliceAt_string
abbrev zY:=@Go.run_storeCells_at
abbrev aY:=@Go.run_underlying
abbrev CC:=@Go.setRow_heap
abbrev Jc:=@Go.setRow_other
abbrev zN:=@true_and
abbrev mi:=@Go.wpIn_mono
abbrev vF:=@Go.wpListIn_plain
namespace Go.Lt
structure Fr where
 n:Nat
 df:List Deferred
 ro:Option Nat
instance:CoeOut Fr Nat:=⟨Fr.n⟩
def fen (r:Option Nat):Fence:={ Fence.wide with round:=r}
def act (n:Fr) (e:Nat→Value):Act:={ tmps:=((List.range n.n).map e).toArray,defers:=n.df}
def ev (n:Nat) (e:Nat→Value):Operand→Value
 | .tmp t=>cond (Nat.ble (t+1) n) (e t) undef
 | .const v=>v
 | .global g=> .pointer (some ⟨g,0,none⟩)
 | .func f=> .func (.func f) #[] #[]
def up (e:Nat→Value) (d:Nat) (v:Value):Nat→Value:=fun t=>cond (Nat.beq t d) v (e t)
def upO (e:Nat→Value):Option Nat→Value→(Nat→Value)
 | some d,v=>up e d v
 | none,_=>e
theorem mf (n:Fr) (e:Nat→Value):(act n e).eval=ev n e:=by
 funext x
 cases x with
 | tmp t=>
  simp only [Act.eval,act,ev];by_cases h:t < n.n
  ·have:Nat.ble (t+1) n.n=true:=lj h;simp [h,this]
  ·have:Nat.ble (t+1) n.n=false:=by
    cases hb:Nat.ble (t+1) n.n with
    | false=>rfl
    | true=>exact absurd (bh hb) h
   simp [h,this]
 | const v=>rfl
 | global g=>rfl
 | func f=>rfl
theorem pN (n:Fr) (e:Nat→Value) (d:Option Nat) (v:Value):(act n e).put d v=act n (upO e d v):=by
 cases d with
 | none=>rfl
 | some d=>
  simp only [Act.put,act,upO]
  congr 1
  apply Array.ext
  ·simp
  ·intro i h1 h2;simp only [nP,aQ,List.length_range,Array.size_setIfInBounds] at h1 h2;by_cases hi:d=i
   ·subst hi; simp [up]
   ·have:Nat.beq i d=false:=by
     cases hb:Nat.beq i d with
     | false=>rfl
     | true=>exact absurd (om hb).symm hi
    simp [up,hi,this]
def Ki:Exit→Prop
 | .panic _=>False
 | .outgrown=>False
 | _=>True
def Ap (n:Fr) (Q:Exit→(Nat→Value)→World→Prop):Exit→Act→World→Prop:=fun x a w=>Ki x∧∃e,a=act n e∧Q x e w
def W (P:Program) (n:Fr) (c:Code) (Q:Exit→(Nat→Value)→World→Prop) (e:Nat→Value) (w:World):Prop:=c.wpIn (fen n.ro) 0 P (Ap n Q) (act n e) w
def qf (K:(Nat→Value)→World→Prop) (Q:Exit→(Nat→Value)→World→Prop):Exit→(Nat→Value)→World→Prop
 | .normal,e,w=>K e w
 | x,e,w=>Q x e w
def my (id:Nat) (Q:Exit→(Nat→Value)→World→Prop):Exit→(Nat→Value)→World→Prop
 | .exit i,e,w=>cond (Nat.beq i id) (Q .normal e w) (Q (.exit i) e w)
 | x,e,w=>Q x e w
section
variable {P:Program} {n:Fr} {Q Q':Exit→(Nat→Value)→World→Prop} {e:Nat→Value} {w:World} {a b:Code}
theorem W.mono (h:W P n a Q e w) (hq:∀x e w,Q x e w→Q' x e w):W P n a Q' e w:=
 mi h fun x _ w ⟨ht,e,ha,hQ⟩=>⟨ht,e,ha,hq x e w hQ⟩
theorem W.seq (h:W P n a (qf (W P n b Q) Q) e w):W P n (a.seq b) Q e w:=
 wpIn_seq (mi h fun x a' w' ⟨ht,e',ha,hQ⟩=>by
  subst ha
  cases x with
  | normal=>exact hQ
  | _=>exact ⟨ht,e',rfl,hQ⟩)
theorem W.seqJ (J:(Nat→Value)→World→Prop) (h:W P n a (qf J Q) e w) (hJ:∀e w,J e w→W P n b Q e w):W P n (a.seq b) Q e w:=
 W.seq (W.mono h fun x e w hx=>by cases x <;> first | exact hJ _ _ hx | exact hx)
theorem W.skip (h:Q .normal e w):W P n .skip Q e w:=wpIn_skip ⟨trivial,e,rfl,h⟩
theorem W.ret (h:Q .ret e w):W P n .ret Q e w:=wpIn_ret ⟨trivial,e,rfl,h⟩
theorem W.exit {id:Nat} (h:Q (.exit id) e w):W P n (.exit id) Q e w:=wpIn_exit ⟨trivial,e,rfl,h⟩
theorem W.block {id:Nat} (h:W P n a (my id Q) e w):W P n (.block id a) Q e w:=
 wpIn_block (mi h fun x a' w' ⟨ht,e',ha,hQ⟩=>by
  subst ha
  cases x with
  | exit i=>
   simp only [Exit.inBlock];by_cases hi:i=id
   ·subst hi;rw [af rfl];exact ⟨trivial,e',rfl,by simpa [my] using hQ⟩
   ·rw [ab hi];have:Nat.beq i id=false:=by
     cases hb:Nat.beq i id with
     | false=>rfl
     | true=>exact absurd (om hb) hi
    exact ⟨trivial,e',rfl,by simpa [my,this] using hQ⟩
  | _=>exact ⟨ht,e',rfl,hQ⟩)
theorem W.cond {c:Operand} {t:Bool} (hc:ev n e c= .bool t) (ht:t=true→W P n a Q e w) (hf:t=false→W P n b Q e w):W P n (.cond c a b) Q e w:=
 wpIn_cond_split (by rw [mf]; exact hc) ht hf
def WL (P:Program) (ops:Array Oper) (n:Fr) (Q:Exit→(Nat→Value)→World→Prop) (l:List Oper) (e:Nat→Value) (w:World):Prop:=
 wpListIn (fen n.ro) 0 P ops (Ap n Q) l (act n e) w
theorem W.region {id:Nat} {l:List Oper} (h:WL P l.toArray n Q l e w):W P n (.region id l.toArray false) Q e w:=wpIn_region_lit h
variable {ops:Array Oper} {o:Oper} {rest:List Oper}
theorem WL.nil (h:Q .normal e w):WL P ops n Q [] e w:=⟨trivial,e,rfl,h⟩
theorem qi {r:Option Nat} {ρ:Operand→Value} {w w':World} {x:Next} (h:(execOp ρ o).run P w= .ok x w') (hx:∀d,x≠ .defer d):(o.semAt r ρ).run P w= .ok x w':=by
 by_cases hd:∀c,o.op≠ .defer c
 ·rw [ID r ρ o hd]; exact h
 ·obtain ⟨c,hc⟩:=Classical.not_forall.1 hd;have hc:=Classical.not_not.1 hc;unfold execOp at h;rw [hc] at h;simp only [gA,Bk] at h
  cases hr:(resolve ρ c o.type).run P w with
  | ok d w1=>rw [hr] at h; simp only [Result.andThen,Result.ok.injEq] at h; exact absurd h.1.symm (hx d)
  | halt h1 w1=>rw [hr] at h; simp [Result.andThen] at h
theorem uN {r:Option Nat} {k:Nat} {f:FuncId} {args:Array Value} {w:World} {R:Ending→World→Prop} (h:Calls P f args w R):CallsIn (fen r) k P f args w R:=(JU (n:=k)).2 h
theorem Fb {v:Value} {w':World} {K:Act→World→Prop} {Qa:Exit→Act→World→Prop} (hr:(execOp (ev n e) o).run P w= .ok (.value v) w') (h:K (act n (upO e o.dst v)) w'):o.wpIn (fen n.ro) 0 P (act n e) w K Qa:=by
 refine ⟨fun _ _=>trivial,?_⟩;rw [mf,qi hr (by simp),LP,pN];exact h
theorem IM {w':World} {K:Act→World→Prop} {Qa:Exit→Act→World→Prop} (hr:(execOp (ev n e) o).run P w= .ok .skip w') (h:K (act n (upO e o.dst undef)) w'):o.wpIn (fen n.ro) 0 P (act n e) w K Qa:=by
 refine ⟨fun _ _=>trivial,?_⟩;rw [mf,qi hr (by simp),Oper.uponIn_skip,pN];exact h
theorem CM {f:FuncId} {args:Array Value} {w':World} {K:Act→World→Prop} {Qa:Exit→Act→World→Prop} (hr:(execOp (ev n e) o).run P w= .ok (.enter f args) w')
  (hc:Calls P f args w' fun x w''=>∃v,x= .returned v∧K (act n (upO e o.dst v)) w''):o.wpIn (fen n.ro) 0 P (act n e) w K Qa:=by
 refine ⟨fun _ _=>trivial,?_⟩;rw [mf,qi hr (by simp),Oper.uponIn_enter];refine ⟨fun h=>(by cases h),(uN hc).mono ?_⟩;rintro x w'' ⟨v,rfl,h⟩;simp only [pN];exact h
theorem WL.val {v:Value} {w':World} (hg:o.guard=none) (hr:(execOp (ev n e) o).run P w= .ok (.value v) w') (h:WL P ops n Q rest (upO e o.dst v) w'):WL P ops n Q (o :: rest) e w:=
 vF hg fun K hK=>Fb hr (hK _ _ h)
theorem WL.do_ {w':World} (hg:o.guard=none) (hr:(execOp (ev n e) o).run P w= .ok .skip w') (h:WL P ops n Q rest (upO e o.dst undef) w'):WL P ops n Q (o :: rest) e w:=
 vF hg fun K hK=>IM hr (hK _ _ h)
theorem WL.call {f:FuncId} {args:Array Value} {w':World} (hg:o.guard=none) (hr:(execOp (ev n e) o).run P w= .ok (.enter f args) w')
  (hc:Calls P f args w' fun x w''=>∃v,x= .returned v∧WL P ops n Q rest (upO e o.dst v) w''):WL P ops n Q (o :: rest) e w:=
 vF hg fun K hK=>CM hr (hc.mono fun x w'' ⟨v,hx,h⟩=>⟨v,hx,hK _ _ h⟩)
def yl (ops:Array Oper) (n:Nat) (e:Nat→Value) (j:Nat):Option Bool:=
 match (ops[j]?).bind Oper.dst with
 | some d=>match ev n e (.tmp d) with
  | .bool b=>some b
  | _=>none
 | none=>none
def ig (ops:Array Oper) (n:Nat) (e:Nat→Value) (o:Oper):Bool:=
 match o.guard with
 | none=>true
 | some (j,want)=>yl ops n e j==some want
theorem oE (ops:Array Oper) (n:Fr) (e:Nat→Value) (o:Oper) (h:∀d,(∃j:Nat,(ops[j]?).bind Oper.dst=some d)→d < n.n):
  Region.wanted o (yielded ops (act n e).tmps)=ig ops n e o:=by
 unfold Region.wanted ig
 cases hg:o.guard with
 | none=>rfl
 | some jw=>
  obtain ⟨j,want⟩:=jw;simp only
  congr 1
  unfold yielded yl
  cases hd:(ops[j]?).bind Oper.dst with
  | none=>rfl
  | some d=>
   have hdn:=h d ⟨j,hd⟩;have:Nat.ble (d+1) n.n=true:=lj hdn;simp only [act,ev,tF,this,cond_true];simp only [bj,dx,pU hdn,jr]
   cases e d <;> rfl
def eR (n:Nat):List Oper→Bool
 | []=>true
 | o :: l=>(match o.dst with | some d=>Nat.ble (d+1) n | none=>true) && eR n l
theorem ku {n:Nat} {l:List Oper} (h:eR n l=true) (d:Nat) (hd:∃j:Nat,(l.toArray[j]?).bind Oper.dst=some d):d < n:=by
 obtain ⟨j,hj⟩:=hd;simp only [bj] at hj
 induction l generalizing j with
 | nil=>simp at hj
 | cons o l ih=>
  simp only [eR,an] at h
  cases j with
  | zero=>
   simp only [fj,tF] at hj;rw [hj] at h;exact bh h.1
  | succ j=>exact ih h.2 j (by simpa using hj)
theorem WL.pass {l:List Oper} (hs:eR n l=true) (hw:ig l.toArray n e o=false) (h:WL P l.toArray n Q rest (upO e o.dst undef) w):WL P l.toArray n Q (o :: rest) e w:=by
 have hww:Region.wanted o (yielded l.toArray (act n e).tmps)=false:=by rw [oE _ _ _ _ (ku hs)]; exact hw
 unfold WL wpListIn;rw [ab (by rw [hww]; simp),pN];exact ⟨fun _ _=>trivial,h⟩
theorem WL.want {l:List Oper} (hs:eR n l=true) (hw:ig l.toArray n e o=true) (h:WL P l.toArray n Q ({ o with guard:=none} :: rest) e w):WL P l.toArray n Q (o :: rest) e w:=by
 have hww:Region.wanted o (yielded l.toArray (act n e).tmps)=true:=by rw [oE _ _ _ _ (ku hs)]; exact hw
 have hg:Region.wanted ({ o with guard:=none}:Oper) (yielded l.toArray (act n e).tmps)=true:=rfl;unfold WL wpListIn at h⊢;rw [af hww];rw [af hg] at h;exact h
theorem W.join (J:(Nat→Value)→World→Prop) (h:W P n a (qf J (fun _ _ _=>False)) e w) (hJ:∀e w,J e w→Q .normal e w):W P n a Q e w:=
 W.mono h fun x e w hx=>by cases x <;> first | exact hJ _ _ hx | exact hx.elim
theorem nrm {K:(Nat→Value)→World→Prop} (h:K e w):qf K Q .normal e w:=h
theorem thx {K:(Nat→Value)→World→Prop} {i:Nat} (h:Q (.exit i) e w):qf K Q (.exit i) e w:=h
theorem thr {K:(Nat→Value)→World→Prop} (h:Q .ret e w):qf K Q .ret e w:=h
theorem bkn {i:Nat} (h:Q .normal e w):my i Q .normal e w:=h
theorem bkr {i:Nat} (h:Q .ret e w):my i Q .ret e w:=h
theorem bke {i:Nat} (h:Q .normal e w):my i Q (.exit i) e w:=by
 have:Nat.beq i i=true:=Nat.beq_refl i;simpa [my,this] using h
theorem bko {i j:Nat} (hij:Nat.beq j i=false) (h:Q (.exit j) e w):my i Q (.exit j) e w:=by simpa [my,hij] using h
theorem WL.valb {t b:Bool} {w':World} (ht:t=b) (hg:o.guard=none) (hr:(execOp (ev n e) o).run P w= .ok (.value (.bool t)) w') (h:WL P ops n Q rest (upO e o.dst (.bool b)) w'):WL P ops n Q (o :: rest) e w:=by
 subst ht;exact WL.val hg hr h
theorem WL.val0 {v:Value} (hg:o.guard=none) (hr:(execOp (ev n e) o).run P w= .ok (.value v) w) (h:WL P ops n Q rest (upO e o.dst v) w):WL P ops n Q (o :: rest) e w:=WL.val hg hr h
theorem WL.valb0 {t b:Bool} (ht:t=b) (hg:o.guard=none) (hr:(execOp (ev n e) o).run P w= .ok (.value (.bool t)) w) (h:WL P ops n Q rest (upO e o.dst (.bool b)) w):WL P ops n Q (o :: rest) e w:=WL.valb ht hg hr h
def cV {σ τ:Type}:Nat→(σ→Option (σ ⊕ τ))→σ→Option τ
 | 0,_,_=>none
 | n+1,f,s=>(f s).bind fun x=>match x with
  | .inl s'=>cV n f s'
  | .inr t=>some t
def lpQ {σ τ:Type} (F:σ→(Nat→Value)→World→Prop) (Out:τ→Exit→(Nat→Value)→World→Prop) (x:σ ⊕ τ):Exit→(Nat→Value)→World→Prop
 | .normal,e,w=>∃s,x= .inl s∧F s e w
 | ex,e,w=>∃t,x= .inr t∧Out t ex e w
theorem W.loop {σ τ:Type} {step:σ→Option (σ ⊕ τ)} (F:σ→(Nat→Value)→World→Prop) (Out:τ→Exit→(Nat→Value)→World→Prop)
  (hb:∀s x e w,step s=some x→F s e w→W P n a (lpQ F Out x) e w) {fuel:Nat} {s:σ} {t:τ} (H:cV fuel step s=some t) (h0:F s e w)
  (hQ:∀x e w,Out t x e w→Q x e w):W P n (.loop a) Q e w:=by
 refine wpIn_loop_rounds fuel ?_
 induction fuel generalizing s e w with
 | zero=>cases H
 | succ k ih=>
  rw [roundsIn_succ];simp only [cV] at H
  cases hs:step s with
  | none=>rw [hs] at H; cases H
  | some x=>
   rw [hs] at H;refine mi (hb s x e w hs h0) ?_;rintro y a' w' ⟨ht,e',rfl,hq⟩
   cases x with
   | inl s'=>
    cases y with
    | normal=>
     obtain ⟨s1,h1,h2⟩:=hq;cases h1;exact ih H h2
    | _=>obtain ⟨t1,h1,_⟩:=hq; cases h1
   | inr t'=>
    have:t'=t:=by simpa using H
    subst this
    cases y with
    | normal=>obtain ⟨s1,h1,_⟩:=hq; cases h1
    | _=>obtain ⟨t1,h1,h2⟩:=hq; cases h1; exact ⟨ht,e',rfl,hQ _ _ _ h2⟩
def ar:List Value→Nat→Value
 | [],_=>undef
 | v :: _,0=>v
 | _ :: l,t+1=>ar l t
def nK (P:Program) (fn:Func) (n:Fr) (R:Ending→World→Prop):Exit→(Nat→Value)→World→Prop
 | .normal,e,w=>∃v,(results fn (act n e).tmps).run P w= .ok v w∧R (.returned v) w
 | .ret,e,w=>∃v,(results fn (act n e).tmps).run P w= .ok v w∧R (.returned v) w
 | _,_,_=>False
theorem GN (n:Nat) (l:List Value) (h:l.length≤n):act ⟨n,[],none⟩ (ar l)= { tmps:=l.toArray++Array.replicate (n - l.length) undef,defers:=[]}:=by
 unfold act
 congr 1
 apply LJ;apply LW
 ·simp; omega
 ·intro i h1 h2;simp only [dv,zE,xK,Array.toList_replicate];have key:∀(l:List Value) (i:Nat) (h:i < l.length),ar l i=l[i]:=by
   intro l
   induction l with
   | nil=>intro i h; simp at h
   | cons v l ih=>
    intro i h
    cases i with
    | zero=>rfl
    | succ i=>exact ih i (by simpa using h)
  have key2:∀(l:List Value) (i:Nat) (h:l.length≤i),ar l i=undef:=by
   intro l
   induction l with
   | nil=>intro i h; rfl
   | cons v l ih=>
    intro i h
    cases i with
    | zero=>simp at h
    | succ i=>exact ih i (by simpa using h)
  by_cases hi:i < l.length
  ·rw [List.getElem_append_left hi]; exact key l i hi
  ·rw [List.getElem_append_right (by omega)]; rw [key2 l i (by omega)]; simp
theorem enter {f:FuncId} {fn:Func} {code:Code} {n:Nat} {l:List Value} {w:World} {R:Ending→World→Prop} (hf:P.funcs[f]? = some fn) (hb:fn.body=some code) (hn:fn.ntmps=n)
  (hl:Nat.ble l.length n=true) (h:W P ⟨n,[],none⟩ code (nK P fn ⟨n,[],none⟩ R) (ar l) w):Calls P f l.toArray w R:=by
 subst hn;have hl:=bh hl;refine (JU (n:=0)).1 (callsIn_of_wp hf hb trivial ?_);rw [nP,←GN _ l hl];refine mi h ?_;rintro x a w' ⟨_,e',rfl,hq⟩
 cases x <;> first | exact ⟨rfl,hq⟩ | exact hq.elim
theorem gt (n:Fr) (e:Nat→Value) (t:Nat):(act n e).tmps.getD t undef=ev n e (.tmp t):=by
 rw [←mf]; rfl
theorem Ln {fn:Func} {R:Ending→World→Prop} (hr:fn.results= #[]) (h:R (.returned (.tuple #[])) w):nK P fn n R .ret e w:=
 ⟨_,results_none hr _ _ _,h⟩
theorem Lu {fn:Func} {R:Ending→World→Prop} (hr:fn.results= #[]) (h:R (.returned (.tuple #[])) w):nK P fn n R .normal e w:=
 ⟨_,results_none hr _ _ _,h⟩
theorem Dx {fn:Func} {R:Ending→World→Prop} {t:Nat} {v:Value} (hr:fn.results= #[.tmp t]) (hv:ev n e (.tmp t)=v) (h:R (.returned v) w):nK P fn n R .ret e w:=
 ⟨_,results_tmp hr _ _ _,by rw [gt,hv]; exact h⟩
theorem Lm {fn:Func} {R:Ending→World→Prop} {t u:Nat} {v v':Value} (hr:fn.results= #[.tmp t,.tmp u]) (hv:ev n e (.tmp t)=v) (hu:ev n e (.tmp u)=v') (h:R (.returned (.tuple #[v,v'])) w):nK P fn n R .ret e w:=
 ⟨_,results_tmp2 hr _ _ _,by rw [gt,gt,hv,hu]; exact h⟩
def ups (e:Nat→Value):List (Nat×Value)→(Nat→Value)
 | []=>e
 | (t,v) :: l=>up (ups e l) t v
def holds (e:Nat→Value):List (Nat×Value)→Prop
 | []=>True
 | (t,v) :: l=>e t=v∧holds e l
theorem G8 (e:Nat→Value) {t:Nat} {v:Value} (h:e t=v):up e t v=e:=by
 funext i
 unfold up;by_cases hb:Nat.beq i t=true
 ·rw [hb,om hb]; exact h.symm
 ·simp [hb]
theorem zK:∀{l:List (Nat×Value)} {e:Nat→Value},holds e l→e=ups e l
 | [],_,_=>rfl
 | (t,v) :: l,e,h=>by
  have:=zK (l:=l) h.2;rw [ups,←this];exact (G8 e h.1).symm
end
def w64 (n:Int):Int:=IntKind.i64.wrap n
def w32 (n:Int):Int:=IntKind.i32.wrap n
def aS (x y:Int):Int:=if y > x then y else x
def aM (x y:Int):Int:=if y < x then y else x
theorem bs {α β:Type} {x:Option α} {f:α→Option β} {r:β} (h:x.bind f=some r):∃a,x=some a∧f a=some r:=by
 cases x with
 | none=>cases h
 | some a=>exact ⟨a,rfl,h⟩
theorem it {α:Type} {b:Bool} {x y:Option α} {r:α} (hb:b=true) (h:(if b=true then x else y)=some r):x=some r:=by rw [af hb] at h; exact h
theorem ie {α:Type} {b:Bool} {x y:Option α} {r:α} (hb:b=false) (h:(if b=true then x else y)=some r):y=some r:=by rw [ab (by simp [hb])] at h; exact h
def orE (t:Bool) (x:Option Bool):Option Bool:=if t=true then some true else x
def bX (t:Bool) (x:Option Bool):Option Bool:=if t=true then x else some false
theorem orT {t:Bool} {x:Option Bool} {d:Bool} (ht:t=true) (h:orE t x=some d):d=true:=by simp [orE,ht] at h; exact h
theorem orF {t:Bool} {x:Option Bool} {d:Bool} (ht:t=false) (h:orE t x=some d):x=some d:=by simpa [orE,ht] using h
theorem anT {t:Bool} {x:Option Bool} {d:Bool} (ht:t=true) (h:bX t x=some d):x=some d:=by simpa [bX,ht] using h
theorem anF {t:Bool} {x:Option Bool} {d:Bool} (ht:t=false) (h:bX t x=some d):d=false:=by simp [bX,ht] at h; exact h
end Go.Lt
namespace Go.Lt
structure Cx where
 w:World
 A:Nat→Nat→Prop
 t:Nat→Nat→Option Nat
structure Cx.le (c c':Cx):Prop where
 os:c'.w.os=c.w.os
 output:c'.w.output=c.w.output
 size:c.w.heap.size≤c'.w.heap.size
 cell:∀k o,k < c.w.heap.size→¬c.A k o→c'.w.cell? ⟨k,o,none⟩=c.w.cell? ⟨k,o,none⟩∧¬c'.A k o
 block:∀k,k < c.w.heap.size→(∀o,¬c.A k o)→c'.w.heap[k]? = c.w.heap[k]?
 frz:∀a,a.block < c.w.heap.size→¬c.A a.block a.off→c'.w.frozen? a=c.w.frozen? a
 t:∀g k b,c.t g k=some b→c'.t g k=some b
theorem Cx.le.refl (c:Cx):c.le c:=⟨rfl,rfl,ao _,fun _ _ _ h=>⟨rfl,h⟩,fun _ _ _=>rfl,fun _ _ _=>rfl,fun _ _ _ h=>h⟩
theorem Cx.le.trans {a b c:Cx} (h:a.le b) (k:b.le c):a.le c:=
 ⟨k.os.trans h.os,k.output.trans h.output,cQ h.size k.size,fun i o hi hA=>by
  obtain ⟨h1,h2⟩:=h.cell i o hi hA;obtain ⟨k1,k2⟩:=k.cell i o (ei hi h.size) h2;exact ⟨k1.trans h1,k2⟩,fun i hi hA=>(k.block i (ei hi h.size) fun o=>(h.cell i o hi (hA o)).2).trans (h.block i hi hA),
  fun a ha hA=>(k.frz a (ei ha h.size) (h.cell _ _ ha hA).2).trans (h.frz a ha hA),fun g i b hb=>k.t g i b (h.t g i b hb)⟩
structure Cx.lw (c c':Cx):Prop where
 os:c'.w.os=c.w.os
 output:c'.w.output=c.w.output
 size:c.w.heap.size≤c'.w.heap.size
 cell:∀k o,k < c.w.heap.size→¬c.A k o→c'.w.cell? ⟨k,o,none⟩=c.w.cell? ⟨k,o,none⟩∧¬c'.A k o
 block:∀k vs T f,c.w.heap[k]? = some (.cells vs T f)→(∀o,¬c.A k o)→c'.w.heap[k]? = c.w.heap[k]?
 frz:∀a,a.block < c.w.heap.size→¬c.A a.block a.off→c'.w.frozen? a=c.w.frozen? a
 t:∀g k b,c.t g k=some b→c'.t g k=some b
theorem Cx.le.lw {c c':Cx} (h:c.le c'):c.lw c':=⟨h.os,h.output,h.size,h.cell,fun k _ _ _ hk hA=>h.block k (Array.getElem?_eq_some_iff.1 hk).1 hA,h.frz,h.t⟩
instance {c c':Cx}:Coe (c.le c') (c.lw c'):=⟨Cx.le.lw⟩
theorem Cx.lw.trans {a b c:Cx} (h:a.lw b) (k:b.lw c):a.lw c:=
 ⟨k.os.trans h.os,k.output.trans h.output,cQ h.size k.size,fun i o hi hA=>by
  obtain ⟨h1,h2⟩:=h.cell i o hi hA;obtain ⟨k1,k2⟩:=k.cell i o (ei hi h.size) h2;exact ⟨k1.trans h1,k2⟩,fun i vs T f hi hA=>by
  have h1:=h.block i vs T f hi hA;exact (k.block i vs T f (h1.trans hi) fun o=>(h.cell i o (Array.getElem?_eq_some_iff.1 hi).1 (hA o)).2).trans h1,
  fun a ha hA=>(k.frz a (ei ha h.size) (h.cell _ _ ha hA).2).trans (h.frz a ha hA),fun g i b hb=>k.t g i b (h.t g i b hb)⟩
structure Cx.but (D:Nat→Prop) (c c':Cx):Prop where
 le:c.le c'
 t:c'.t=c.t
 same:∀k,k < c.w.heap.size→¬D k→c'.w.heap[k]? = c.w.heap[k]?∧∀o,c'.A k o↔c.A k o
def Gr (w w':World):Prop:=w.keptBut w' (fun _=>False)∧(∀a,a.block < w.heap.size→w'.frozen? a=w.frozen? a)∧w.heap.size≤w'.heap.size
theorem Gr.frame {w w':World} (h:Gr w w') (may:MemPlace→Prop):w.keptBut w' may:=LA (fun _ f=>f.elim) h.1
theorem Cx.le.grown {w:World} {c':Cx} (h:Cx.le ⟨w,fun _ _=>False,fun _ _=>none⟩ c'):Gr w c'.w:=
 ⟨⟨h.os,h.output,fun i hi=>by
  rw [h.block i hi fun _=>id];have:=World.keptBut_refl w fun _=>False;exact this.2.2 i hi⟩,fun a ha=>h.frz a ha id,h.size⟩
structure Im (c:Cx) (b o:Nat) (v:Value):Prop where
 lt:b < c.w.heap.size
 nA:¬c.A b o
 cell:c.w.cell? ⟨b,o,none⟩=some v
theorem Im.lw {c c':Cx} {b o:Nat} {v:Value} (h:Im c b o v) (k:c.lw c'):Im c' b o v:=by
 obtain ⟨h1,h2⟩:=k.cell b o h.lt h.nA;exact ⟨ei h.lt k.size,h2,h1.trans h.cell⟩
theorem Im.mono {c c':Cx} {b o:Nat} {v:Value} (h:Im c b o v) (k:c.le c'):Im c' b o v:=h.lw k.lw
structure Rp (α:Type) where
 size:Nat
 cells:Cx→List Value→α→Prop
 len:∀{c l x},cells c l x→l.length=size
 one:∀{c l x},cells c l x→∀v∈l,v.oneCell'=true
 mono:∀{c c' l x},c.lw c'→cells c l x→cells c' l x
def RI (k:IntKind):Rp Int where
 size:=1
 cells:=fun _ l n=>l= [.int k n]
 len:=fun h=>by simp [h]
 one:=fun h v hv=>by rw [h] at hv; simp at hv; subst hv; rfl
 mono:=fun _ h=>h
def RS:Rp ByteArray where
 size:=1
 cells:=fun _ l n=>l= [.string n]
 len:=fun h=>by simp [h]
 one:=fun h v hv=>by rw [h] at hv; simp at hv; subst hv; rfl
 mono:=fun _ h=>h
def Sl {α:Type} (R:Rp α) (c:Cx) (v:Value) (xs:List α):Prop:=
 ∃a cap,v= .slice a xs.length cap∧xs.length≤cap∧cap≤maxLen∧
  ∀i x,xs[i]? = some x→∃b off l,a=some ⟨b,off,none⟩∧R.cells c l x∧∀j u,l[j]? = some u→Im c b (off+i * R.size+j) u
theorem Sl.lw {α:Type} {R:Rp α} {c c':Cx} {v:Value} {xs:List α} (h:Sl R c v xs) (k:c.lw c'):Sl R c' v xs:=by
 obtain ⟨a,cap,h1,h2,h3,h4⟩:=h;refine ⟨a,cap,h1,h2,h3,fun i x hx=>?_⟩;obtain ⟨b,off,l,e,hl,hc⟩:=h4 i x hx;exact ⟨b,off,l,e,R.mono k hl,fun j u hu=>(hc j u hu).lw k⟩
theorem Sl.mono {α:Type} {R:Rp α} {c c':Cx} {v:Value} {xs:List α} (h:Sl R c v xs) (k:c.le c'):Sl R c' v xs:=h.lw k.lw
theorem Sl.one {α:Type} {R:Rp α} {c:Cx} {v:Value} {xs:List α} (h:Sl R c v xs):v.oneCell'=true:=by
 obtain ⟨a,cap,rfl,_⟩:=h; rfl
theorem Sl.nil {α:Type} (R:Rp α) (c:Cx) (a:Option Addr) (cap:Nat) (h:cap≤maxLen):Sl R c (.slice a 0 cap) []:=
 ⟨a,cap,rfl,cR _,h,fun i x hx=>by simp at hx⟩
theorem Sl.nl {α:Type} (R:Rp α) (c:Cx):Sl R c (.slice none 0 0) []:=Sl.nil R c none 0 (cR _)
def RL {α:Type} (R:Rp α):Rp (List α) where
 size:=1
 cells:=fun c l xs=>∃v,l= [v]∧Sl R c v xs
 len:=fun ⟨v,h,_⟩=>by simp [h]
 one:=fun ⟨v,h,hs⟩ u hu=>by rw [h] at hu; simp at hu; subst hu; exact hs.one
 mono:=fun k ⟨v,h,hs⟩=>⟨v,h,hs.lw k⟩
def Pt (g:Nat) (c:Cx) (v:Value):Option Nat→Prop
 | none=>v= .pointer none
 | some k=>∃b,v= .pointer (some ⟨b,0,none⟩)∧c.t g k=some b
theorem Pt.lw {g:Nat} {c c':Cx} {v:Value} {p:Option Nat} (h:Pt g c v p) (k:c.lw c'):Pt g c' v p:=by
 cases p with
 | none=>exact h
 | some p=>obtain ⟨b,h1,h2⟩:=h; exact ⟨b,h1,k.t _ _ _ h2⟩
theorem Pt.mono {g:Nat} {c c':Cx} {v:Value} {p:Option Nat} (h:Pt g c v p) (k:c.le c'):Pt g c' v p:=h.lw k.lw
theorem Pt.one {g:Nat} {c:Cx} {v:Value} {p:Option Nat} (h:Pt g c v p):v.oneCell'=true:=by
 cases p with
 | none=>obtain rfl:=h; rfl
 | some p=>obtain ⟨b,rfl,_⟩:=h; rfl
def RP (g:Nat):Rp (Option Nat) where
 size:=1
 cells:=fun c l p=>∃v,l= [v]∧Pt g c v p
 len:=fun ⟨v,h,_⟩=>by simp [h]
 one:=fun ⟨v,h,hs⟩ u hu=>by rw [h] at hu; simp at hu; subst hu; exact hs.one
 mono:=fun k ⟨v,h,hs⟩=>⟨v,h,hs.lw k⟩
theorem Pt.get {g:Nat} {c:Cx} {v:Value} {p:Option Nat} {k:Nat} (h:Pt g c v p) (hp:p=some k):∃b,v= .pointer (some ⟨b,0,none⟩)∧c.t g k=some b:=by subst hp; exact h
theorem Pt.get2 {g:Nat} {c:Cx} {b k:Nat} {p:Option Nat} (h:Pt g c (.pointer (some ⟨b,0,none⟩)) p) (hp:p=some k):c.t g k=some b:=by
 subst hp;obtain ⟨b',h1,h2⟩:=h;cases h1;exact h2
inductive Er where
 | nil
 | sent (g:Nat)
 | fault (i:Int) (e:Er)
structure Fz (c:Cx) (b:Nat):Prop where
 lt:b < c.w.heap.size
 nA:∀o,¬c.A b o
 blk:∃vs T,c.w.heap[b]? = some (.cells vs T (0,0))
theorem Fz.lw {c c':Cx} {b:Nat} (h:Fz c b) (k:c.lw c'):Fz c' b:=by
 obtain ⟨vs,T,hb⟩:=h.blk;exact ⟨ei h.lt k.size,fun o=>(k.cell b o h.lt (h.nA o)).2,vs,T,(k.block b _ _ _ hb h.nA).trans hb⟩
theorem Fz.mono {c c':Cx} {b:Nat} (h:Fz c b) (k:c.le c'):Fz c' b:=h.lw k.lw
def RE (S T:TypeId) (c:Cx):Value→Er→Prop
 | v,.nil=>v= .nilIface
 | v,.sent g=>∃a,v= .iface S (.pointer (some a))∧Im c g 0 v∧Fz c a.block
 | v,.fault i e=>∃b u,v= .iface T (.pointer (some ⟨b,0,none⟩))∧Im c b 0 (.int .i64 i)∧Im c b 1 u∧RE S T c u e
theorem RE.lw {S T:TypeId} {c c':Cx} {v:Value} {e:Er} (h:RE S T c v e) (k:c.lw c'):RE S T c' v e:=by
 induction e generalizing v with
 | nil=>exact h
 | sent g=>obtain ⟨b,h,hi,hf⟩:=h; exact ⟨b,h,hi.lw k,hf.lw k⟩
 | fault i e ih=>obtain ⟨b,u,h,h1,h2,h3⟩:=h; exact ⟨b,u,h,h1.lw k,h2.lw k,ih h3⟩
theorem RE.mono {S T:TypeId} {c c':Cx} {v:Value} {e:Er} (h:RE S T c v e) (k:c.le c'):RE S T c' v e:=h.lw k.lw
theorem RE.im {S T:TypeId} {c:Cx} {v:Value} {g:Nat} (h:RE S T c v (.sent g)):Im c g 0 v:=by
 obtain ⟨b,_,h,_⟩:=h; exact h
def Er.isNil:Er→Bool
 | .nil=>true
 | _=>false
def sb:Value→Nat
 | .slice (some a) _ _=>a.block
 | _=>0
def so:Value→Nat
 | .slice (some a) _ _=>a.off
 | _=>0
theorem Sl.at {α:Type} {R:Rp α} {c:Cx} {v:Value} {xs:List α} (h:Sl R c v xs) {i:Nat} {x:α} (hx:xs[i]? = some x):
  ∃l,R.cells c l x∧∀j u,l[j]? = some u→Im c (sb v) (so v+i * R.size+j) u:=by
 obtain ⟨a,cap,rfl,_,_,h4⟩:=h;obtain ⟨b,off,l,rfl,hl,hc⟩:=h4 i x hx;exact ⟨l,hl,hc⟩
def idx {α:Type} (xs:List α) (i:Int):Option α:=if 0≤i then xs[i.toNat]? else none
def slc {α:Type} (xs:List α) (i j:Int):Option (List α):=if 0≤i∧i≤j∧j≤xs.length then some ((xs.drop i.toNat).take (j - i).toNat) else none
def far:Nat:=1099511627776
def app {α:Type} (xs ys:List α):Option (List α):=if xs.length+ys.length≤far then some (xs++ys) else none
def rep {α:Type} (n:Int) (x:α):Option (List α):=if 0≤n∧n≤far then some (List.replicate n.toNat x) else none
def mj {α:Type} (xs:List α) (i:Int) (x:α):Option (List α):=if 0≤i∧i < xs.length then some (xs.set i.toNat x) else none
theorem bW {α:Type} {xs:List α} {i:Int} {x:α} (h:idx xs i=some x):xs[i.toNat]? = some x:=by
 unfold idx at h;split at h
 ·exact h
 ·cases h
theorem la {α:Type} {xs:List α} {i:Int} {x:α} (h:idx xs i=some x):0≤i∧i < xs.length:=by
 have:=bW h;unfold idx at h;split at h
 ·have:=(List.getElem?_eq_some_iff.1 this).1;omega
 ·cases h
structure En where
 v:Value
 T:TypeId
 vs:List Value
 lim:Nat
def blk:Value→Option Nat
 | .pointer (some a)=>some a.block
 | .slice (some a) _ _=>some a.block
 | _=>none
def bk:Value→Option Nat
 | .pointer (some a)=>some a.block
 | .slice (some a) _ _=>some a.block
 | .map (some b)=>some b
 | _=>none
def mp:Value→Bool
 | .map _=>true
 | _=>false
theorem xc {v:Value} {b:Nat} (h:blk v=some b):bk v=some b∧mp v=false:=by
 unfold blk at h;split at h
 ·exact ⟨h,rfl⟩
 ·exact ⟨h,rfl⟩
 ·cases h
def unE:List Value→List MapEntry
 | k :: v :: .int _ n :: l=>⟨k,v,n.toNat⟩ :: unE l
 | _=>[]
def mkE:List MapEntry→List Value
 | []=>[]
 | e :: l=>e.key :: e.val :: .int .i64 e.born :: mkE l
theorem Cy:∀l:List MapEntry,unE (mkE l)=l
 | []=>rfl
 | e :: l=>by simp only [mkE,unE,Cy l,bp]
def En.ob (e:En):Obj:=cond (mp e.v) (.map (unE e.vs).toArray e.T) (.cells e.vs.toArray e.T (0,0))
def En.on (e:En) (c:Cx):Prop:=∀b,bk e.v=some b→c.w.heap[b]? = some e.ob∧∀o,c.A b o↔e.lim≤o
theorem En.on.ce {e:En} {c:Cx} {b:Nat} (h:e.on c) (hb:blk e.v=some b):c.w.heap[b]? = some (.cells e.vs.toArray e.T (0,0))∧∀o,c.A b o↔e.lim≤o:=by
 have:=h b (xc hb).1;unfold En.ob at this
 rwa [(xc hb).2] at this
theorem En.on.mk {e:En} {c:Cx} {b:Nat} (hb:blk e.v=some b) (h:c.w.heap[b]? = some (.cells e.vs.toArray e.T (0,0))∧∀o,c.A b o↔e.lim≤o):e.on c:=by
 intro b' hb';rw [(xc hb).1] at hb';cases hb';unfold En.ob;rw [(xc hb).2];exact h
def apart (e e':En):Prop:=∀b,bk e.v=some b→bk e'.v=some b→False
def uZ:En:=⟨.nilIface,0,[],0⟩
abbrev Gm:=Nat→Nat→List En
def at_ (G:Gm) (F:List En):Nat ⊕ (Nat×Nat×Nat)→Option En
 | .inl k=>F[k]?
 | .inr (g,k,r)=>(G g k)[r]?
def oC {ι:Type} (c:Cx) (M:ι→Option En):Prop:=(∀i e,M i=some e→e.on c)∧∀i j e e',M i=some e→M j=some e'→i≠j→apart e e'
theorem En.on.lt {e:En} {c:Cx} {b:Nat} (h:e.on c) (hb:bk e.v=some b):b < c.w.heap.size:=(Array.getElem?_eq_some_iff.1 (h b hb).1).1
theorem En.on.keep {e:En} {c c':Cx} (h:e.on c) (k:∀b,bk e.v=some b→c'.w.heap[b]? = c.w.heap[b]?∧∀o,c'.A b o↔c.A b o):e.on c':=fun b hb=>
 ⟨(k b hb).1.trans (h b hb).1,fun o=>((k b hb).2 o).trans ((h b hb).2 o)⟩
theorem CT (c:Cx):uZ.on c:=fun b hb=>by cases hb
theorem wv (e:En):apart uZ e:=fun b hb=>by cases hb
theorem xf (e:En):apart e uZ:=fun b _ hb=>by cases hb
theorem oC.upd {ι:Type} {c c':Cx} {M M':ι→Option En} (h:oC c M) (i:ι) {D:Nat→Prop} (hb:c.but D c') (hD:∀b,D b→∃e,M i=some e∧bk e.v=some b) (hM:∀j,j≠i→M' j=M j)
  {e':En} (hi:M' i=some e') (hon:e'.on c') (hnew:∀b,bk e'.v=some b→(∃e,M i=some e∧bk e.v=some b)∨c.w.heap.size≤b):oC c' M':=by
 have key:∀j e,j≠i→M' j=some e→e.on c':=fun j e hj he=>by
  rw [hM j hj] at he;refine (h.1 j e he).keep fun b hbe=>hb.same b ((h.1 j e he).lt hbe) fun hd=>?_;obtain ⟨e2,h2,h3⟩:=hD b hd;exact h.2 j i e e2 he h2 hj b hbe h3
 have far:∀j e,j≠i→M' j=some e→apart e e':=fun j e hj he b h1 h2=>by
  rw [hM j hj] at he;rcases hnew b h2 with ⟨e2,h3,h4⟩ | h3
  ·exact h.2 j i e e2 he h3 hj b h1 h4
  ·exact absurd ((h.1 j e he).lt h1) (Nat.not_lt.2 h3)
 classical
 refine ⟨fun j e he=>?_,fun j k e e2 he he2 hjk=>?_⟩
 ·by_cases hj:j=i
  ·subst hj; rw [hi] at he; cases he; exact hon
  ·exact key j e hj he
 ·by_cases hj:j=i
  ·subst hj;rw [hi] at he; cases he;exact fun b h1 h2=>far k e2 (rS hjk) he2 b h2 h1
  ·by_cases hk:k=i
   ·subst hk; rw [hi] at he2; cases he2; exact far j e hj he
   ·rw [hM j hj] at he; rw [hM k hk] at he2; exact h.2 j k e e2 he he2 hjk
theorem oC.re {ι κ:Type} {c:Cx} {M:ι→Option En} {M':κ→Option En} (h:oC c M) (f:κ→ι) (hf:∀k e,M' k=some e→M (f k)=some e) (inj:∀k k' e e',M' k=some e→M' k'=some e'→f k=f k'→k=k'):oC c M':=
 ⟨fun k e he=>h.1 _ e (hf k e he),fun k k' e e' he he' hne=>h.2 _ _ e e' (hf k e he) (hf k' e' he') fun hh=>hne (inj k k' e e' he he' hh)⟩
structure Own (c:Cx) (G:Gm) (F:List En):Prop where
 m:oC c (at_ G F)
 t0:∀g k,G g k= []→c.t g k=none
section
variable {c c':Cx} {G:Gm} {F:List En}
theorem Own.on (O:Own c G F) (k:Nat) {e:En} (h:F[k]? = some e):e.on c:=O.m.1 (.inl k) e h
theorem Own.gon (O:Own c G F) {g k:Nat} {E:List En} (hE:G g k=E) (r:Nat) {e:En} (h:E[r]? = some e):e.on c:=O.m.1 (.inr (g,k,r)) e (by subst hE; exact h)
theorem Own.keep (O:Own c G F) (h:c.but (fun _=>False) c'):Own c' G F:=
 ⟨⟨fun i e he=>(O.m.1 i e he).keep fun b hb=>h.same b ((O.m.1 i e he).lt hb) id,O.m.2⟩,fun g k hk=>by rw [h.t]; exact O.t0 g k hk⟩
theorem Own.set (O:Own c G F) (k:Nat) {e e':En} {D:Nat→Prop} (hk:F[k]? = some e) (hb:c.but D c') (hD:∀b,D b→bk e.v=some b) (hon:e'.on c') (hnew:∀b,bk e'.v=some b→bk e.v=some b∨c.w.heap.size≤b):Own c' G (F.set k e'):=
 ⟨oC.upd O.m (.inl k) hb (fun b h=>⟨e,hk,hD b h⟩) (fun j hj=>by
  cases j with
  | inl j=>exact aT (fun e=>hj (by rw [e]))
  | inr j=>rfl) (e':=e') (be (List.getElem?_eq_some_iff.1 hk).1) hon (fun b h=>(hnew b h).imp (fun h=>⟨e,hk,h⟩) id),fun g k hk=>by rw [hb.t]; exact O.t0 g k hk⟩
theorem Own.sel {F0:List En} {L:List En} (ix:List Nat) (O:Own c G (L++F0)) (hn:ix.Nodup) {L':List En} (hL:ix.map (fun i=>L[i]?)=L'.map some):Own c G (L'++F0):=by
 have hlen:ix.length=L'.length:=by have:=dG List.length hL; simpa using this
 have hget:∀(i:Nat) (hi:i < ix.length),L[ix[i]]? = some (L'[i]'(hlen▸ hi)):=fun i hi=>by
  have:=dG (fun l=>l[i]?) hL;simpa [ah hi,ah (hlen▸ hi:i < L'.length)] using this
 refine ⟨oC.re O.m (fun j=>match j with
  | .inl j=>if h:j < ix.length then .inl ix[j] else .inl (j - ix.length+L.length)
  | .inr j=> .inr j) ?_ ?_,O.t0⟩
 ·intro j e he
  cases j with
  | inr j=>exact he
  | inl j=>
   by_cases hj:j < ix.length
   ·simp only [hj,rK];have h2:=hget j hj;have hlt:=(List.getElem?_eq_some_iff.1 h2).1;simp only [at_] at he⊢;rw [aG (hlen▸ hj),ah (hlen▸ hj)] at he;rw [aG hlt,h2,he]
   ·simp only [hj,pY,rG];simp only [at_] at he⊢;rw [aV (by omega)] at he;rw [aV (by omega),←he]
    congr 1
    omega
 ·intro j j' e e' he he' hh
  cases j with
  | inr j=>
   cases j' with
   | inr j'=>exact hh
   | inl j'=>by_cases hj:j' < ix.length <;> simp [hj] at hh
  | inl j=>
   cases j' with
   | inr j'=>by_cases hj:j < ix.length <;> simp [hj] at hh
   | inl j'=>
    by_cases hj:j < ix.length
    ·have h1:=(List.getElem?_eq_some_iff.1 (hget j hj)).1;by_cases hj':j' < ix.length
     ·simp only [hj,hj',rK,sv] at hh;rw [(List.getElem_inj hn).1 hh]
     ·simp only [hj,hj',rK,pY,rG,sv] at hh;omega
    ·by_cases hj':j' < ix.length
     ·have h1:=(List.getElem?_eq_some_iff.1 (hget j' hj')).1;simp only [hj,hj',rK,pY,rG,sv] at hh;omega
     ·simp only [hj,hj',pY,rG,sv] at hh
      congr 1
      omega
theorem Own.cons (O:Own c G F) {e:En} {D:Nat→Prop} (hb:c.but D c') (hD:∀b,¬D b) (hon:e.on c') (hnew:∀b,bk e.v=some b→c.w.heap.size≤b):Own c' G (e :: F):=by
 have O1:oC c (at_ G (uZ :: F)):=by
  refine ⟨fun i e he=>?_,fun i j e e' he he' hij=>?_⟩
  ·cases i with
   | inr i=>exact O.m.1 (.inr i) e he
   | inl i=>cases i with
    | zero=>cases he; exact CT c
    | succ i=>exact O.m.1 (.inl i) e he
  ·have pull:∀i,i≠ .inl 0→∀e,at_ G (uZ :: F) i=some e→∃i',at_ G F i'=some e∧(match i' with | .inl k=>i= .inl (k+1) | .inr k=>i= .inr k):=fun i hi e he=>by
    cases i with
    | inr i=>exact ⟨.inr i,he,rfl⟩
    | inl i=>cases i with
     | zero=>exact absurd rfl hi
     | succ i=>exact ⟨.inl i,he,rfl⟩
   by_cases hi:i= .inl 0
   ·subst hi; cases he; exact wv _
   ·by_cases hj:j= .inl 0
    ·subst hj; cases he'; exact xf _
    ·obtain ⟨i',h1,h2⟩:=pull i hi e he;obtain ⟨j',h3,h4⟩:=pull j hj e' he';refine O.m.2 i' j' e e' h1 h3 fun hh=>hij ?_;subst hh
     cases i' <;> simp_all
 exact ⟨oC.upd O1 (.inl 0) hb (fun b h=>absurd h (hD b)) (fun j hj=>by
  cases j with
  | inr j=>rfl
  | inl j=>cases j with
   | zero=>exact absurd rfl hj
   | succ j=>rfl) (e':=e) rfl hon (fun b h=> .inr (hnew b h)),fun g k hk=>by rw [hb.t]; exact O.t0 g k hk⟩
theorem Own.addHole (O:Own c G F) {e:En} (he:bk e.v=none):Own c G (e :: F):=
 O.cons (D:=fun _=>False) ⟨Cx.le.refl c,rfl,fun _ _ _=>⟨rfl,fun _=>oD⟩⟩ (fun _=>id) (fun b hb=>by rw [he] at hb; cases hb) (fun b hb=>by rw [he] at hb; cases hb)
theorem Own.tail {e:En} (O:Own c G (e :: F)):Own c G F:=
 ⟨oC.re O.m (fun j=>match j with | .inl j=> .inl (j+1) | .inr j=> .inr j) (fun j e he=>by cases j <;> exact he) (fun j j' _ _ _ _ h=>by
  cases j <;> cases j' <;> simp_all),O.t0⟩
def jd (G:Gm) (g k:Nat) (E:List En):Gm:=fun g' k'=>if g'=g∧k'=k then E else G g' k'
theorem cK (G:Gm) (g k:Nat) (E:List En):jd G g k E g k=E:=by simp [jd]
theorem vK {c:Cx} {G:Gm} {g k:Nat} {E:List En} (h:∀g k,G g k= []→c.t g k=none) (hE:E= []→G g k= []):∀g' k',jd G g k E g' k'= []→c.t g' k'=none:=fun g' k' h'=>by
 simp only [jd] at h';split at h'
 ·rename_i hh
  obtain ⟨rfl,rfl⟩:=hh;exact h _ _ (hE h')
 ·exact h _ _ h'
theorem yG {α:Type} {E:List α} {r:Nat} {e:α} (h:E.set r e= []):E= []:=by
 have:=dG List.length h;rw [cf] at this;exact aW this
theorem eA {G:Gm} {g k g' k':Nat} {E:List En} (h:¬(g'=g∧k'=k)):jd G g k E g' k'=G g' k':=by simp only [jd,ab h]
theorem Own.setR (O:Own c G F) {g k:Nat} {E:List En} (r:Nat) {e e':En} {D:Nat→Prop} (hE:G g k=E) (hr:E[r]? = some e) (hb:c.but D c') (hD:∀b,D b→bk e.v=some b) (hon:e'.on c') (hnew:∀b,bk e'.v=some b→bk e.v=some b∨c.w.heap.size≤b):
  Own c' (jd G g k (E.set r e')) F:=by
 subst hE;refine ⟨oC.upd O.m (.inr (g,k,r)) hb (fun b h=>⟨e,hr,hD b h⟩) (fun j hj=>?_) (e':=e') ?_ hon (fun b h=>(hnew b h).imp (fun h=>⟨e,hr,h⟩) id),vK (fun g k hk=>by rw [hb.t]; exact O.t0 g k hk) yG⟩
 ·cases j with
  | inl j=>rfl
  | inr j=>
   obtain ⟨g',k',r'⟩:=j;by_cases h:g'=g∧k'=k
   ·obtain ⟨rfl,rfl⟩:=h;simp only [at_,cK];exact aT (fun e=>hj (by rw [e]))
   ·simp only [at_,eA h]
 ·simp only [at_,cK];exact be (List.getElem?_eq_some_iff.1 hr).1
theorem Own.borrow (O:Own c G F) {g k:Nat} {E:List En} (r:Nat) {e:En} (hE:G g k=E) (hr:E[r]? = some e):Own c (jd G g k (E.set r uZ)) (e :: F):=by
 subst hE;have hlt:=(List.getElem?_eq_some_iff.1 hr).1;have main:∀g' k' r' e1,at_ (jd G g k ((G g k).set r uZ)) (e :: F) (.inr (g',k',r'))=some e1→(g',k',r')≠(g,k,r)→at_ G F (.inr (g',k',r'))=some e1:=fun g' k' r' e1 h1 hne=>by
  simp only [at_] at h1⊢;by_cases h:g'=g∧k'=k
  ·obtain ⟨rfl,rfl⟩:=h;rw [cK,aT (fun e=>hne (by rw [e]))] at h1;exact h1
  ·rwa [eA h] at h1
 have hh:∀e1,at_ (jd G g k ((G g k).set r uZ)) (e :: F) (.inr (g,k,r))=some e1→e1=uZ:=fun e1 h1=>by
  simp only [at_,cK] at h1;rw [be hlt] at h1
  cases h1; rfl
 classical
 let f:Nat ⊕ (Nat×Nat×Nat)→Nat ⊕ (Nat×Nat×Nat):=fun j=>match j with
  | .inl 0=> .inr (g,k,r)
  | .inl (j+1)=> .inl j
  | .inr j=> .inr j
 have hf:∀j e1,j≠ .inr (g,k,r)→at_ (jd G g k ((G g k).set r uZ)) (e :: F) j=some e1→at_ G F (f j)=some e1:=fun j e1 hj he=>by
  cases j with
  | inl j=>cases j with
   | zero=>cases he; exact hr
   | succ j=>exact he
  | inr j=>exact main j.1 j.2.1 j.2.2 e1 he (fun e=>hj (by rw [←e]))
 refine ⟨⟨fun j e1 he=>?_,fun j j' e1 e2 he he2 hne=>?_⟩,vK O.t0 yG⟩
 ·by_cases hj:j= .inr (g,k,r)
  ·subst hj; rw [hh e1 he]; exact CT c
  ·exact O.m.1 (f j) e1 (hf j e1 hj he)
 ·by_cases hj:j= .inr (g,k,r)
  ·subst hj; rw [hh e1 he]; exact wv _
  ·by_cases hj':j'= .inr (g,k,r)
   ·subst hj'; rw [hh e2 he2]; exact xf _
   ·refine O.m.2 (f j) (f j') e1 e2 (hf j e1 hj he) (hf j' e2 hj' he2) fun hff=>?_
    cases j with
    | inl j=>cases j with
     | zero=>cases j' with
      | inl j'=>cases j' with
       | zero=>exact hne rfl
       | succ j'=>simp [f] at hff
      | inr j'=>exact hj' (by simpa [f] using hff.symm)
     | succ j=>cases j' with
      | inl j'=>cases j' with
       | zero=>simp [f] at hff
       | succ j'=>exact hne (by simpa [f] using hff)
      | inr j'=>simp [f] at hff
    | inr j=>cases j' with
     | inl j'=>cases j' with
      | zero=>exact hj (by simpa [f] using hff)
      | succ j'=>simp [f] at hff
     | inr j'=>exact hne (by simpa [f] using hff)
theorem Own.give {e:En} (O:Own c G (e :: F)) {g k:Nat} {E:List En} (r:Nat) {e0:En} (hE:G g k=E) (hr:E[r]? = some e0):Own c (jd G g k (E.set r e)) F:=by
 subst hE;have hlt:=(List.getElem?_eq_some_iff.1 hr).1
 classical
 let f:Nat ⊕ (Nat×Nat×Nat)→Nat ⊕ (Nat×Nat×Nat):=fun j=>match j with
  | .inl j=> .inl (j+1)
  | .inr j=>if j=(g,k,r) then .inl 0 else .inr j
 refine ⟨oC.re O.m f (fun j e1 he=>?_) (fun j j' e1 e2 he he2 hff=>?_),vK O.t0 yG⟩
 ·cases j with
  | inl j=>exact he
  | inr j=>
   obtain ⟨g',k',r'⟩:=j;by_cases h0:(g',k',r')=(g,k,r)
   ·simp only [gE] at h0;obtain ⟨rfl,rfl,rfl⟩:=h0;simp only [at_,cK] at he;rw [be hlt] at he;simp only [f,af];exact he
   ·simp only [f,ab h0];simp only [at_] at he⊢;by_cases h:g'=g∧k'=k
    ·obtain ⟨rfl,rfl⟩:=h;rw [cK,aT (fun e=>h0 (by rw [e]))] at he;exact he
    ·rwa [eA h] at he
 ·cases j with
  | inl j=>cases j' with
   | inl j'=>simpa [f] using hff
   | inr j'=>by_cases h:j'=(g,k,r) <;> simp [f,h] at hff
  | inr j=>cases j' with
   | inl j'=>by_cases h:j=(g,k,r) <;> simp [f,h] at hff
   | inr j'=>
    by_cases h:j=(g,k,r)
    ·by_cases h':j'=(g,k,r)
     ·rw [h,h']
     ·simp [f,h,h'] at hff
    ·by_cases h':j'=(g,k,r)
     ·simp [f,h,h'] at hff
     ·simpa [f,h,h'] using hff
theorem xQ (G:Gm) (g k:Nat) (E E':List En):jd (jd G g k E) g k E'=jd G g k E':=by
 funext g' k'
 simp only [jd];split <;> rfl
theorem Own.giveB {e:En} {g k:Nat} {E:List En} (r:Nat) {e0:En} (O:Own c (jd G g k E) (e :: F)) (hr:E[r]? = some e0):Own c (jd G g k (E.set r e)) F:=by
 have:=Own.give O r (cK G g k E) hr
 rwa [xQ] at this
theorem oC.newObj {E:List En} (O:oC c (at_ G (E++F))) {g k:Nat} (hE:G g k= []):oC c (at_ (jd G g k E) F):=by
 classical
 let f:Nat ⊕ (Nat×Nat×Nat)→Nat ⊕ (Nat×Nat×Nat):=fun j=>match j with
  | .inl j=> .inl (j+E.length)
  | .inr j=>if j.1=g∧j.2.1=k then .inl j.2.2 else .inr j
 have hr:∀r e,at_ (jd G g k E) F (.inr (g,k,r))=some e→r < E.length:=fun r e he=>by
  simp only [at_,cK] at he;exact (List.getElem?_eq_some_iff.1 he).1
 refine oC.re O f (fun j e1 he=>?_) (fun j j' e1 e2 he he2 hff=>?_)
 ·cases j with
  | inl j=>
   simp only [f,at_] at he⊢;rw [aV (by omega)];rw [←he]; congr 1; omega
  | inr j=>
   obtain ⟨g',k',r'⟩:=j;by_cases h:g'=g∧k'=k
   ·simp only [f,af h];obtain ⟨rfl,rfl⟩:=h;have:=hr _ _ he;simp only [at_,cK] at he⊢;rw [aG this]; exact he
   ·simp only [f,ab h];simp only [at_,eA h] at he⊢;exact he
 ·cases j with
  | inl j=>cases j' with
   | inl j'=>simpa [f] using hff
   | inr j'=>
    obtain ⟨g',k',r'⟩:=j';by_cases h:g'=g∧k'=k
    ·obtain ⟨rfl,rfl⟩:=h;have:=hr _ _ he2;simp [f] at hff;omega
    ·simp [f,h] at hff
  | inr j=>
   obtain ⟨g1,k1,r1⟩:=j
   cases j' with
   | inl j'=>
    by_cases h:g1=g∧k1=k
    ·obtain ⟨rfl,rfl⟩:=h;have:=hr _ _ he;simp [f] at hff;omega
    ·simp [f,h] at hff
   | inr j'=>
    obtain ⟨g',k',r'⟩:=j';by_cases h:g1=g∧k1=k
    ·by_cases h':g'=g∧k'=k
     ·simp only [f,af h,af h',sv] at hff;obtain ⟨rfl,rfl⟩:=h;obtain ⟨rfl,rfl⟩:=h';rw [hff]
     ·simp [f,h,h'] at hff
    ·by_cases h':g'=g∧k'=k
     ·simp [f,h,h'] at hff
     ·simpa [f,h,h'] using hff
theorem Own.newObj {E:List En} (O:Own c G (E++F)) {g k b:Nat} (hE:G g k= []) (hne:E≠ []):∃c',(c'.w=c.w∧c'.A=c.A)∧c.le c'∧c'.t g k=some b∧Own c' (jd G g k E) F:=by
 have ht:∀g' k' b',c.t g' k'=some b'→¬(g'=g∧k'=k):=fun g' k' b' h hh=>by
  obtain ⟨rfl,rfl⟩:=hh;rw [O.t0 _ _ hE] at h;cases h
 refine ⟨⟨c.w,c.A,fun g' k'=>if g'=g∧k'=k then some b else c.t g' k'⟩,⟨rfl,rfl⟩,⟨rfl,rfl,ao _,fun _ _ _ h=>⟨rfl,h⟩,fun _ _ _=>rfl,fun _ _ _=>rfl,fun g' k' b' h=>?_⟩,by simp,⟨oC.newObj O.m hE,fun g' k' h=>?_⟩⟩
 ·simp only [ab (ht g' k' b' h)];exact h
 ·simp only [jd] at h⊢;split at h
  ·exact absurd h hne
  ·rename_i hh
   simp only [ab hh];exact O.t0 _ _ h
structure Rl {α:Type} (Y:Cx→Option Nat→List En→α→Prop) (g:Nat) (c:Cx) (G:Gm) (xs:List α):Prop where
 ob:∀k x,xs[k]? = some x→Y c (c.t g k) (G g k) x
 no:∀k,xs.length≤k→G g k= []
variable {α:Type} {Y:Cx→Option Nat→List En→α→Prop} {g:Nat} {xs:List α}
theorem Rl.mono (h:Rl Y g c G xs) (hm:∀b E x,Y c (some b) E x→Y c' (some b) E x) (hs:∀E x,¬Y c none E x) (hk:c.lw c'):Rl Y g c' G xs:=
 ⟨fun k x hx=>by
  have:=h.ob k x hx
  cases hb:c.t g k with
  | none=>rw [hb] at this; exact absurd this (hs _ _)
  | some b=>rw [hb] at this; rw [hk.t g k b hb]; exact hm b _ _ this,h.no⟩
theorem Rl.set (h:Rl Y g c G xs) {k:Nat} {E:List En} {x:α} (hk:k < xs.length) (hY:Y c (c.t g k) E x):Rl Y g c (jd G g k E) (xs.set k x):=
 ⟨fun j y hy=>by
  by_cases hj:j=k
  ·subst hj;rw [be hk] at hy;cases hy;rw [cK]; exact hY
  ·rw [aT (rS hj)] at hy;rw [eA (fun e=>hj e.2)];exact h.ob j y hy,fun j hj=>by
  rw [cf] at hj;rw [eA (fun e=>by omega)];exact h.no j hj⟩
theorem Rl.other (h:Rl Y g c G xs) {g' k:Nat} {E:List En} (hne:g≠g'):Rl Y g c (jd G g' k E) xs:=
 ⟨fun j y hy=>by rw [eA (fun e=>hne e.1)]; exact h.ob j y hy,fun j hj=>by rw [eA (fun e=>hne e.1)]; exact h.no j hj⟩
theorem Rl.new (h:Rl Y g c G xs) {E:List En} {x:α} (hY:Y c (c.t g xs.length) E x):Rl Y g c (jd G g xs.length E) (xs++ [x]):=
 ⟨fun j y hy=>by
  by_cases hj:j=xs.length
  ·subst hj;rw [aV (ao _)] at hy;simp at hy;subst hy;rw [cK]; exact hY
  ·have hlt:j < xs.length:=by
    have:=(List.getElem?_eq_some_iff.1 hy).1;rw [ag] at this;simp at this;omega
   rw [aG hlt] at hy;rw [eA (fun e=>hj e.2)];exact h.ob j y hy,fun j hj=>by
  rw [ag] at hj;simp at hj;rw [eA (fun e=>by omega)];exact h.no j (by omega)⟩
end
end Go.Lt
namespace Go.Lt
def aO (c:Cx) (X:Cx→Value→Prop):Ending→World→Prop:=fun x w=>∃v c',x= .returned v∧w=c'.w∧c.le c'∧X c' v
def Kp (G:Gm) (N:List En) (c:Cx):Prop:=∀i e,at_ G N i=some e→e.on c
theorem Kp.nil {c:Cx} {G:Gm} {F:List En} (O:Own c G F):Kp G [] c:=fun i e h=>by
 cases i with
 | inl i=>simp [at_] at h
 | inr i=>exact O.m.1 (.inr i) e h
def G0:Gm:=fun _ _=>[]
theorem Kp.nil0 {c:Cx}:Kp G0 [] c:=fun i e h=>by
 cases i <;> simp [at_,G0] at h
theorem Kp.cons {c:Cx} {G:Gm} {N:List En} {e:En} (h:e.on c) (k:Kp G N c):Kp G (e :: N) c:=fun i e' h'=>by
 cases i with
 | inl i=>cases i with
  | zero=>cases h'; exact h
  | succ i=>exact k (.inl i) e' h'
 | inr i=>exact k (.inr i) e' h'
theorem Kp.on {c:Cx} {G:Gm} {N:List En} (h:Kp G N c) (k:Nat) {e:En} (hk:N[k]? = some e):e.on c:=h (.inl k) e hk
theorem Kp.gon {c:Cx} {G:Gm} {N:List En} (h:Kp G N c) {g k:Nat} {E:List En} (hE:G g k=E) (r:Nat) {e:En} (hr:E[r]? = some e):e.on c:=h (.inr (g,k,r)) e (by subst hE; exact hr)
def Kf (ops:Array Oper) (li:List Bool) (i:Nat) (B:List Nat):List Nat:=
 (List.range ops.size).filter fun j=> !li.getD j true && !(j==i) && (ops[j]?).any fun o=>o.after.any fun x=>Region.binds .any x && ((x.on==i && !li.getD i true) || B.contains x.on)
def EA (ops:Array Oper) (li:List Bool) (i:Nat):Nat→List Nat
 | 0=>[]
 | n+1=>Kf ops li i (EA ops li i n)
def okB (ops:Array Oper) (li:List Bool) (i:Nat) (D:List Nat):Bool:=
 let B:=EA ops li i ops.size
 B.all (fun j=> !li.getD j true && !(j==i) && (ops[j]?).any fun o=>o.after.any fun x=>Region.binds .any x && (x.on==i || B.contains x.on)) && D.all fun j=>li.getD j true || B.contains j
section
variable {P:Program} {ops:Array Oper} {n:Fr} {r:Option Nat} {Q:Exit→(Nat→Value)→World→Prop} {D:List Nat} {K:Cx→Prop}
def rA (r:Option Nat) (D:List Nat) (K:Cx→Prop) (P:Program) (ops:Array Oper) (Q:Exit→Act→World→Prop):Nat→Array Bool→Act→Cx→Prop
 | 0,listed,a,c=>Region.ready .any ops listed= []∧Q .normal a c.w
 | fuel+1,listed,a,c=>(Region.ready .any ops listed= []→Q .normal a c.w)∧
  ∀i∈Region.ready .any ops listed,wpOpIn (fen r) 0 P ops Q i (fun a' w=>∃c',w=c'.w∧c.le c'∧(i∈D∨(K c→K c'))∧rA r D K P ops Q fuel (listed.setIfInBounds i true) a' c') a c.w
theorem rA.sound {Q:Exit→Act→World→Prop}:∀(fuel:Nat) (listed:Array Bool) (a:Act) (c:Cx),rA r D K P ops Q fuel listed a c→wpAnyIn (fen r) 0 P .any ops Q fuel listed a c.w
 | 0,_,_,_,h=>h
 | _+1,_,_,_,h=>⟨h.1,fun i hi=>wpOpIn_mono (fun a w ⟨c',hw,_,_,h'⟩=>by subst hw; exact rA.sound _ _ _ _ h') (h.2 i hi)⟩
def Yl (Z:Cx→Prop) (P:Program) (ops:Array Oper) (o:Oper) (v:Value) (a:Act) (c:Cx):Prop:=
 (Region.wanted o (yielded ops a.tmps)=true∧∀c',c.le c'→Z c'→(execOp a.eval o).run P c'.w= .ok (.value v) c'.w)∨
 (Region.wanted o (yielded ops a.tmps)=false∧v=undef)
theorem Do (o:Oper) (hs:∀cs b,o.op≠ .select cs b) (a:Act) (dst:Option Tmp) (v:Value) (h:∀d,dst=some d→d∉o.looksAt ops):
  o.semAt r (a.put dst v).eval=o.semAt r a.eval:=by
 by_cases hd:∀c,o.op≠ .defer c
 ·rw [ID _ _ _ hd,ID _ _ _ hd];exact Ls o hs a dst v h
 ·obtain ⟨c,hc⟩:=Classical.not_forall.1 hd;have hc:=Classical.not_not.1 hc;have he:resolve (a.put dst v).eval c o.type=resolve a.eval c o.type:=resolve_congr c o.type fun x hx=>Act.eval_put fun d hd hxd=>h d hd (by
   subst hxd;exact fi _ (List.mem_filterMap.2 ⟨.tmp d,by rw [hc]; simpa [Op.operands] using hx,rfl⟩))
  cases r with
  | none=>exact Ls o hs a dst v h
  | some l=>
   unfold Oper.semAt;rw [hc];simp only [he]
theorem Yl.wpOp {Z:Cx→Prop} {i:Nat} {o:Oper} {v:Value} {a:Act} {c:Cx} (hz:Z c) (hi:ops[i]? = some o) (hy:Yl Z P ops o v a c) {Q:Exit→Act→World→Prop} {K:Act→World→Prop}
  (h:K (a.put o.dst v) c.w):wpOpIn (fen r) 0 P ops Q i K a c.w:=by
 unfold Go.wpOpIn;simp only [hi];rcases hy with ⟨hw,hv⟩ | ⟨hw,rfl⟩
 ·rw [af hw];refine ⟨fun _ _=>trivial,?_⟩;rw [qi (hv c (Cx.le.refl c) hz) (by simp),LP];exact h
 ·rw [ab (by rw [hw]; simp)];exact ⟨fun _ _=>trivial,h⟩
def Wt (ops:Array Oper) (listed:Array Bool) (i:Nat) (B:List Nat):Prop:=
 ∀j∈B,listed.getD j true=false∧j≠i∧∃oj,ops[j]? = some oj∧∃x∈oj.after,Region.binds .any x=true∧(x.on=i∨x.on∈B)
theorem yk (l:List Bool) (j:Nat):l.toArray.getD j true=l.getD j true:=by simp [ck,aw]
theorem Fe {l:List Oper} {li:List Bool} {i:Nat} {D:List Nat} (h:okB l.toArray li i D=true):∃B,Wt l.toArray li.toArray i B∧∀j∈D,li.toArray.getD j true=true∨j∈B:=by
 refine ⟨EA l.toArray li i l.toArray.size,fun j hj=>?_,fun j hj=>?_⟩
 ·simp only [okB,an,mo] at h;have:=h.1 j hj;simp only [dQ,bN,LN] at this;obtain ⟨⟨h1,h2⟩,h3⟩:=this;refine ⟨by rw [yk]; exact h1,h2,?_⟩
  cases ho:l.toArray[j]? with
  | none=>rw [ho] at h3; cases h3
  | some oj=>
   rw [ho] at h3;simp only [Option.any_some,Array.any_eq_true',an,aC,aA,Kc] at h3;obtain ⟨x,hx,hb,hon⟩:=h3;exact ⟨oj,rfl,x,hx,hb,hon⟩
 ·simp only [okB,an,mo] at h;have:=h.2 j hj;simp only [aC,Kc] at this;rw [yk];exact this
theorem rA.first {Q:Exit→Act→World→Prop} (hP:∀ch a w,¬Q (.panic ch) a w) (hO:∀a w,¬Q .outgrown a w) {i:Nat} {oi:Oper} {v:Value} (hi:ops[i]? = some oi)
  (hsel:∀(j:Nat) (o:Oper) cs b,ops[j]? = some o→o.op≠ .select cs b) {Z:Cx→Prop} {B:List Nat} (hZ:(∀c,Z c)∨Z=K):
  ∀(fuel:Nat) (listed:Array Bool) (a:Act) (c:Cx),
   (∀j oj,ops[j]? = some oj→j≠i→listed.getD j true=false→(∀x∈oj.after,Region.binds .any x=true→x.on≠i)→oi.apart ops oj=true)→
   Wt ops listed i B→((∀c,Z c)∨∀j∈D,listed.getD j true=true∨j∈B)→Z c→
   i∈Region.ready .any ops listed→Yl Z P ops oi v a c→
   rA r D K P ops Q fuel (listed.setIfInBounds i true) (a.put oi.dst v) c→rA r D K P ops Q (fuel+1) listed a c:=by
 have notB:∀(listed:Array Bool) j,Wt ops listed i B→i∈Region.ready .any ops listed→j∈Region.ready .any ops listed→j∉B:=fun listed j hW hr hj hB=>by
  obtain ⟨_,_,oj,hoj,x,hx,hb,hon⟩:=hW j hB;obtain ⟨_,oj',hoj',hall⟩:=mem_ready.1 hj;rw [hoj] at hoj';cases hoj';have h1:=hall x hx hb;have h0:listed.getD x.on true=false:=by
   rcases hon with h | h
   ·rw [h]; exact (mem_ready.1 hr).1
   ·exact (hW _ h).1
  rcases aR x.on listed.size with h' | h'
  ·simp [h'] at h0 h1; rw [h0] at h1; cases h1
  ·simp [kJ h'] at h1
 intro fuel
 induction fuel with
 | zero=>
  intro listed a c _ hW hD hz hr hy H;refine ⟨fun h=>(by rw [h] at hr; cases hr),fun j hj=>?_⟩;by_cases hji:j=i
  ·subst hji; exact hy.wpOp hz hi ⟨c,rfl,Cx.le.refl c,.inr id,H⟩
  ·have:=Lp hj hji;rw [H.1] at this;cases this
 | succ fuel ih=>
  intro listed a c hfree hW hD hz hr hy H;refine ⟨fun h=>(by rw [h] at hr; cases hr),fun j hj=>?_⟩;by_cases hji:j=i
  ·subst hji; exact hy.wpOp hz hi ⟨c,rfl,Cx.le.refl c,.inr id,H⟩
  ·have h1:=H.2 j (Lp hj hji);obtain ⟨hjun,oj,hoj,hall⟩:=mem_ready.1 hj;have hnot:∀x∈oj.after,Region.binds .any x=true→x.on≠i:=fun x hx hb heq=>by
    have h1:=hall x hx hb;have h0:=(mem_ready.1 hr).1;rw [heq] at h1;rcases aR i listed.size with h' | h'
    ·simp [h'] at h0 h1; rw [h0] at h1; cases h1
    ·simp [kJ h'] at h1
   obtain ⟨ha1,ha2,ha3⟩:=Oper.apart_spec (hfree j oj hoj hji hjun hnot);have hfree':∀k ok,ops[k]? = some ok→k≠i→(listed.setIfInBounds j true).getD k true=false→
     (∀x∈ok.after,Region.binds .any x=true→x.on≠i)→oi.apart ops ok=true:=fun k ok hk hki hun hno=>by
    refine hfree k ok hk hki ?_ hno;by_cases hjk:j=k
    ·subst hjk; exact hjun
    ·rw [KJ true hjk] at hun; exact hun
   have hW':Wt ops (listed.setIfInBounds j true) i B:=fun k hk=>by
    obtain ⟨h1,h2⟩:=hW k hk;refine ⟨?_,h2⟩;have hjk:j≠k:=fun e=>by subst e; exact notB listed j hW hr hj hk
    rw [KJ true hjk];exact h1
   have hD':(∀c,Z c)∨∀k∈D,(listed.setIfInBounds j true).getD k true=true∨k∈B:=hD.imp id fun h k hk=>by
    rcases h k hk with h | h
    ·by_cases hjk:j=k
     ·subst hjk; rw [hjun] at h; cases h
     ·exact .inl (by rw [KJ true hjk]; exact h)
    ·exact .inr h
   have keep:∀(b:Act),b.tmps=a.tmps→∀(u:Value) (c':Cx),c.le c'→Yl Z P ops oi v (b.put oj.dst u) c':=fun b hb u c' hc=>by
    have hbe:b.eval=a.eval:=by funext x; cases x <;> simp [Act.eval,hb]
    have he:execOp (b.put oj.dst u).eval oi=execOp a.eval oi:=hbe▸ Ls oi (fun cs b=>hsel i oi cs b hi) _ _ _ ha3;have hw:Region.wanted oi (yielded ops (b.put oj.dst u).tmps)=Region.wanted oi (yielded ops a.tmps):=hb▸ wanted_put oi _ _ _ ha3;unfold Yl at hy⊢;rw [he,hw];exact hy.imp (fun ⟨h1,h2⟩=>⟨h1,fun c'' h hz=>h2 c'' (hc.trans h) hz⟩) id
   have fin:∀(b:Act),b.tmps=a.tmps→∀(u:Value) (w:World),(∃c',w=c'.w∧c.le c'∧(j∈D∨(K c→K c'))∧rA r D K P ops Q fuel ((listed.setIfInBounds i true).setIfInBounds j true) ((b.put oi.dst v).put oj.dst u) c')→
     ∃c',w=c'.w∧c.le c'∧(j∈D∨(K c→K c'))∧rA r D K P ops Q (fuel+1) (listed.setIfInBounds j true) (b.put oj.dst u) c':=by
    rintro b hb u w ⟨c',rfl,hle,hk,h⟩;have hz':Z c':=by
     rcases hZ with h | h
     ·exact h c'
     ·rcases hD with h2 | h2
      ·exact h2 c'
      ·rcases hk with h3 | h3
       ·rcases h2 j h3 with h4 | h4
        ·rw [hjun] at h4; cases h4
        ·exact absurd h4 (notB listed j hW hr hj)
       ·subst h; exact h3 hz
    refine ⟨c',rfl,hle,hk,ih _ _ _ hfree' hW' hD' hz' (Lp hr (rS hji)) (keep b hb u c' hle) ?_⟩;rw [Array.setIfInBounds_comm _ _ hji,←Act.put_comm b v u ha2];exact h
   have he:oj.semAt r (a.put oi.dst v).eval=oj.semAt r a.eval:=Do oj (fun cs b=>hsel j oj cs b hoj) _ _ _ ha1;have hw:Region.wanted oj (yielded ops (a.put oi.dst v).tmps)=Region.wanted oj (yielded ops a.tmps):=wanted_put oj _ _ _ ha1;unfold Go.wpOpIn at h1⊢;simp only [hoj] at h1⊢;rw [hw] at h1;split
   ·rename_i hww
    rw [af hww] at h1;refine ⟨fun _ _=>trivial,?_⟩;have h1:=h1.2;have hro:(fen r).round=r:=rfl;rw [hro,he] at h1;rw [hro];generalize (oj.semAt r a.eval).run P c.w=res at h1⊢
    cases res with
    | ok x w'=>
     cases x <;> simp only [Oper.uponIn] at h1⊢
     case value u=>exact fin a rfl _ _ h1
     case skip=>exact fin a rfl _ _ h1
     case defer d=>rw [Act.put_defers] at h1; exact fin { a with defers:=_ :: a.defers} rfl _ _ h1
     case enter f args=>
      refine ⟨h1.1,h1.2.mono fun x w'' hx=>?_⟩
      cases x with
      | returned u=>exact fin a rfl _ _ hx
      | panicked ch=>exact absurd hx (hP _ _ _)
      | outgrown=>obtain ⟨a1,w1,h3⟩:=hx; exact absurd h3 (hO _ _)
     case row row args=>exact ⟨h1.1,h1.2.mono fun u w'' hv=>fin a rfl _ _ hv⟩
     case round l f tmps assign body=>
      refine ⟨h1.1,h1.2.mono fun x w'' hx=>?_⟩
      cases x with
      | returned u=>exact fin a rfl _ _ hx
      | panicked ch=>exact absurd hx (hP _ _ _)
      | outgrown=>obtain ⟨a1,w1,h3⟩:=hx; exact absurd h3 (hO _ _)
    | halt x w'=>
     cases x <;> simp only [Oper.uponIn] at h1⊢
     case panic u=>exact absurd h1 (hP _ _ _)
   ·rename_i hww
    rw [ab hww] at h1;exact ⟨fun _ _=>trivial,fin a rfl _ _ h1.2⟩
def AC (D:List Nat) (K:Cx→Prop) (P:Program) (l:List Oper) (n:Fr) (Q:Exit→(Nat→Value)→World→Prop) (fuel:Nat) (li:List Bool) (e:Nat→Value) (c:Cx):Prop:=
 rA n.ro D K P l.toArray (Ap n Q) fuel li.toArray (act n e) c
theorem Cx.drew_le (c:Cx):c.but (fun _=>False) ⟨c.w.drew,c.A,c.t⟩:=⟨⟨rfl,rfl,ao _,fun _ _ _ h=>⟨rfl,h⟩,fun _ _ _=>rfl,fun _ _ _=>rfl,fun _ _ _ h=>h⟩,rfl,fun _ _ _=>⟨rfl,fun _=>oD⟩⟩
theorem W.regionD (D:List Nat) (K:Cx→Prop) {id:Nat} {l:List Oper} {e:Nat→Value} {c:Cx} {G:Gm} {F:List En} (O:Own c G F) (hm:P.follows .mixedOrders=true)
  (h:∀c',c.le c'→Own c' G F→AC D K P l n Q l.length (List.replicate l.length false) e c'):W P n (.region id l.toArray true) Q e c.w:=
 wpIn_region_any hm (by
  have:=rA.sound _ _ _ _ (h _ (Cx.drew_le c).le (O.keep (Cx.drew_le c)));rw [show (List.replicate l.length false).toArray=Array.replicate l.toArray.size false by simp] at this;exact this)
variable {l:List Oper} {fuel:Nat} {li:List Bool} {e:Nat→Value} {c:Cx} {o:Oper}
theorem AC.take0 {Z:Cx→Prop} {B:List Nat} (hZ:(∀c,Z c)∨Z=K) {i:Nat} {v:Value} (hi:l.toArray[i]? = some o) (hs:Region.noSelect l.toArray=true) (hf:Region.free .any l.toArray li.toArray i=true)
  (hr:(Region.ready .any l.toArray li.toArray).contains i=true) (hB:Wt l.toArray li.toArray i B) (hD:(∀c,Z c)∨∀j∈D,li.toArray.getD j true=true∨j∈B) (hz:Z c) (hy:Yl Z P l.toArray o v (act n e) c)
  (h:AC D K P l n Q fuel (li.set i true) (upO e o.dst v) c):AC D K P l n Q (fuel+1) li e c:=by
 refine rA.first (fun ch a w h=>h.1) (fun a w h=>h.1) hi (Region.noSelect_spec hs) hZ fuel _ _ c (Region.free_spec hi hf) hB hD hz (by simpa using hr) hy ?_;rw [pN];simpa [AC] using h
def tk (l:List Oper) (n:Nat) (li:List Bool) (i:Nat):Bool:=
 Region.noSelect l.toArray && Region.free .any l.toArray li.toArray i && (Region.ready .any l.toArray li.toArray).contains i && eR n l
theorem AC.take (i:Nat) (v:Value) (hi:l.toArray[i]? = some o) (ht:tk l n li i=true) (hw:ig l.toArray n e o=true)
  (hy:∀c',c.le c'→(execOp (ev n e) o).run P c'.w= .ok (.value v) c'.w) (h:AC D K P l n Q fuel (li.set i true) (upO e o.dst v) c):AC D K P l n Q (fuel+1) li e c:=by
 simp only [tk,an] at ht;exact AC.take0 (Z:=fun _=>True) (B:=[]) (.inl fun _=>trivial) hi ht.1.1.1 ht.1.1.2 ht.1.2 (fun j hj=>by simp at hj) (.inl fun _=>trivial) trivial (.inl ⟨by rw [oE _ _ _ _ (ku ht.2)]; exact hw,by rw [mf]; exact fun c' hc _=>hy c' hc⟩) h
theorem AC.takeb (i:Nat) {t b:Bool} (htb:t=b) (hi:l.toArray[i]? = some o) (ht:tk l n li i=true) (hw:ig l.toArray n e o=true)
  (hy:∀c',c.le c'→(execOp (ev n e) o).run P c'.w= .ok (.value (.bool t)) c'.w) (h:AC D K P l n Q fuel (li.set i true) (upO e o.dst (.bool b)) c):AC D K P l n Q (fuel+1) li e c:=by
 subst htb;exact AC.take i _ hi ht hw hy h
theorem AC.takeK (i:Nat) (v:Value) (hk:K c) (hi:l.toArray[i]? = some o) (ht:tk l n li i=true) (hB:okB l.toArray li i D=true) (hw:ig l.toArray n e o=true)
  (hy:∀c',c.le c'→K c'→(execOp (ev n e) o).run P c'.w= .ok (.value v) c'.w) (h:AC D K P l n Q fuel (li.set i true) (upO e o.dst v) c):AC D K P l n Q (fuel+1) li e c:=by
 simp only [tk,an] at ht;obtain ⟨B,h1,h2⟩:=Fe hB;exact AC.take0 (Z:=K) (B:=B) (.inr rfl) hi ht.1.1.1 ht.1.1.2 ht.1.2 h1 (.inr h2) hk (.inl ⟨by rw [oE _ _ _ _ (ku ht.2)]; exact hw,by rw [mf]; exact hy⟩) h
theorem AC.pass (i:Nat) (hi:l.toArray[i]? = some o) (ht:tk l n li i=true) (hw:ig l.toArray n e o=false)
  (h:AC D K P l n Q fuel (li.set i true) (upO e o.dst undef) c):AC D K P l n Q (fuel+1) li e c:=by
 simp only [tk,an] at ht;exact AC.take0 (Z:=fun _=>True) (B:=[]) (.inl fun _=>trivial) hi ht.1.1.1 ht.1.1.2 ht.1.2 (fun j hj=>by simp at hj) (.inl fun _=>trivial) trivial (.inr ⟨by rw [oE _ _ _ _ (ku ht.2)]; exact hw,rfl⟩) h
def Go1 (D:List Nat) (K:Cx→Prop) (P:Program) (l:List Oper) (n:Fr) (Q:Exit→(Nat→Value)→World→Prop) (fuel:Nat) (li:List Bool) (e:Nat→Value) (c:Cx) (i:Nat):Prop:=
 wpOpIn (fen n.ro) 0 P l.toArray (Ap n Q) i (fun a' w=>∃c',w=c'.w∧c.le c'∧(i∈D∨(K c→K c'))∧rA n.ro D K P l.toArray (Ap n Q) fuel (li.toArray.setIfInBounds i true) a' c') (act n e) c.w
def Iz (p:Nat→Prop):List Nat→Prop
 | []=>True
 | i :: l=>p i∧Iz p l
theorem Iz.mem {p:Nat→Prop}:∀{l:List Nat},Iz p l→∀i∈l,p i
 | [],_,i,hi=>by cases hi
 | a :: l,h,i,hi=>by
  rcases List.mem_cons.1 hi with rfl | hi
  ·exact h.1
  ·exact h.2.mem i hi
theorem AC.many (is:List Nat) (hne:is≠ []) (hr:Region.ready .any l.toArray li.toArray=is) (h:Iz (Go1 D K P l n Q fuel li e c) is):AC D K P l n Q (fuel+1) li e c:=
 ⟨fun h0=>(by rw [hr] at h0; exact absurd h0 hne),fun j hj=>h.mem j (hr▸ hj)⟩
theorem Go1.mk {i:Nat} (hi:l.toArray[i]? = some o) (hsl:eR n l=true) (hw:ig l.toArray n e o=true)
  (h:o.wpIn (fen n.ro) 0 P (act n e) c.w (fun a w=>∃e' c',a=act n e'∧w=c'.w∧c.le c'∧(i∈D∨(K c→K c'))∧AC D K P l n Q fuel (li.set i true) e' c') (Ap n Q)):Go1 D K P l n Q fuel li e c i:=by
 unfold Go1 wpOpIn;simp only [hi];rw [af (by rw [oE _ _ _ _ (ku hsl)]; exact hw)];refine Oper.wpIn_mono ?_ h;rintro a w ⟨e',c',rfl,rfl,hle,hk,h'⟩;exact ⟨c',rfl,hle,hk,by simpa [AC] using h'⟩
theorem Go1.val {i:Nat} {v:Value} {c':Cx} (hi:l.toArray[i]? = some o) (hsl:eR n l=true) (hw:ig l.toArray n e o=true)
  (hrun:(execOp (ev n e) o).run P c.w= .ok (.value v) c'.w) (hle:c.le c') (hk:D.contains i=true∨K c') (h:AC D K P l n Q fuel (li.set i true) (upO e o.dst v) c'):Go1 D K P l n Q fuel li e c i:=
 Go1.mk hi hsl hw (Fb hrun ⟨_,c',rfl,rfl,hle,hk.imp (by simp) fun h _=>h,h⟩)
theorem Go1.do_ {i:Nat} {c':Cx} (hi:l.toArray[i]? = some o) (hsl:eR n l=true) (hw:ig l.toArray n e o=true)
  (hrun:(execOp (ev n e) o).run P c.w= .ok .skip c'.w) (hle:c.le c') (hk:D.contains i=true∨K c') (h:AC D K P l n Q fuel (li.set i true) (upO e o.dst undef) c'):Go1 D K P l n Q fuel li e c i:=
 Go1.mk hi hsl hw (IM hrun ⟨_,c',rfl,rfl,hle,hk.imp (by simp) fun h _=>h,h⟩)
theorem Go1.call {i:Nat} {f:FuncId} {args:Array Value} {X:Cx→Value→Prop} (hi:l.toArray[i]? = some o) (hsl:eR n l=true) (hw:ig l.toArray n e o=true)
  (hrun:(execOp (ev n e) o).run P c.w= .ok (.enter f args) c.w) (hc:Calls P f args c.w (aO c X))
  (h:∀v c',c.le c'→X c' v→(D.contains i=true∨K c')∧AC D K P l n Q fuel (li.set i true) (upO e o.dst v) c'):Go1 D K P l n Q fuel li e c i:=
 Go1.mk hi hsl hw (CM hrun (hc.mono fun x w=>by
  rintro ⟨v,c',rfl,rfl,hx,hX⟩;have:=h v c' hx hX;exact ⟨v,rfl,_,c',rfl,rfl,hx,this.1.imp (by simp) fun h _=>h,this.2⟩))
theorem AC.done (hr:Region.ready .any l.toArray li.toArray= []) (h:Q .normal e c.w):AC D K P l n Q fuel li e c:=by
 cases fuel with
 | zero=>exact ⟨hr,trivial,e,rfl,h⟩
 | succ k=>exact ⟨fun _=>⟨trivial,e,rfl,h⟩,by rw [hr]; simp⟩
theorem AC.gh {c':Cx} (hw:c'.w=c.w) (hA:c.le c') (hk:K c→K c') (h:AC D K P l n Q fuel li e c'):AC D K P l n Q fuel li e c:=by
 have key:∀(fuel:Nat) (listed:Array Bool) (a:Act),rA n.ro D K P l.toArray (Ap n Q) fuel listed a c'→rA n.ro D K P l.toArray (Ap n Q) fuel listed a c:=fun fuel listed a h=>by
  cases fuel with
  | zero=>exact ⟨h.1,by rw [←hw]; exact h.2⟩
  | succ fuel=>
   refine ⟨fun h0=>by rw [←hw]; exact h.1 h0,fun i hi=>?_⟩;have:=h.2 i hi;rw [hw] at this;exact wpOpIn_mono (fun a w ⟨c2,h1,h2,h3,h4⟩=>⟨c2,h1,hA.trans h2,h3.imp id fun h5 h6=>h5 (hk h6),h4⟩) this
 exact key _ _ _ h
theorem WL.callP {ops:Array Oper} {rest:List Oper} {f:FuncId} {args:Array Value} {X:Cx→Value→Prop} (hg:o.guard=none) (hr:(execOp (ev n e) o).run P c.w= .ok (.enter f args) c.w)
  (hc:Calls P f args c.w (aO c X)) (h:∀v c',c.le c'→X c' v→WL P ops n Q rest (upO e o.dst v) c'.w):WL P ops n Q (o :: rest) e c.w:=
 WL.call hg hr (hc.mono fun x w ⟨v,c',h1,h2,h3,h4⟩=>⟨v,h1,by subst h2; exact h v c' h3 h4⟩)
theorem WL.gh {ops:Array Oper} {rest:List Oper} {c':Cx} (hw:c'.w=c.w) (h:WL P ops n Q rest e c'.w):WL P ops n Q rest e c.w:=hw▸ h
end
end Go.Lt
namespace Go.Lt
section
variable {P:Program} {c c':Cx} {G:Gm} {F:List En} {α:Type} {R:Rp α}
theorem rv {s:Sem Value} {w w':World} {v:Value} (h:s.run P w= .ok v w'):(do pure (Next.value (←s)):Sem Next).run P w= .ok (.value v) w':=by
  simp [h,Result.andThen]
theorem rs {s:Sem Unit} {w w':World} (h:s.run P w= .ok () w'):(do s; pure Next.skip:Sem Next).run P w= .ok .skip w':=by
  simp [h,Result.andThen]
theorem rx {ρ:Operand→Value} {o:Oper} {s:Sem Value} {w w':World} {v:Value} (hx:execOp ρ o=(do pure (Next.value (←s)):Sem Next)) (h:s.run P w= .ok v w'):(execOp ρ o).run P w= .ok (.value v) w':=by
  rw [hx];exact rv h
theorem Dq {v:Value} {xs:List α} {T E:TypeId} {k:IntKind} {i:Int} {x:α} (hT:P.underlying T=some (.slice E)) (hE:(P.info? E).map (·.size)=some R.size)
    (h:Sl R c v xs) (hi:idx xs i=some x) (w:World):(Instr.indexAt T v (.int k i)).run P w= .ok (.pointer (some ⟨sb v,so v+i.toNat * R.size,none⟩)) w:=by
  obtain ⟨a,cap,rfl,_,_,h4⟩:=h;unfold idx at hi;split at hi
  · rename_i h0
    have hlt:i.toNat < xs.length:=by
      rcases aR i.toNat xs.length with h | h
      · exact h
      · rw [bI h] at hi; cases hi
    obtain ⟨b,off,l,rfl,_,_⟩:=h4 _ _ hi;obtain ⟨ti,hti,hsz⟩:=Option.map_eq_some_iff.1 hE;have hlt':i < xs.length:=by omega
    simp [Instr.indexAt,asIntOf,aY hT,h0,hlt',sizeOf,typeInfo,hti,hsz,sb,so,dp]
  · cases hi
theorem Hq {v:Value} {xs:List α} {T E ty:TypeId} (hT:P.underlying T=some (.slice E)) (h:Sl R c v xs) (w:World):
    (Builtin.len_ #[T] ty #[v]).run P w= .ok (.int .i64 (xs.length:Int)) w:=by
  obtain ⟨a,cap,rfl,_⟩:=h;simp [Builtin.len_,aY hT,goInt]
theorem xW {T:TypeId} {b o:Nat} {v:Value} {d:TypeDesc} (hT:P.underlying T=some d) (hd:(match d with | .struct _ | .array _ _=>false | _=>true)=true)
    (h:Im c b o v):(Instr.loadAt T (.pointer (some ⟨b,o,none⟩))).run P c.w= .ok v c.w:=by
  cases d <;> simp_all [Instr.loadAt,Instr.sureAddr,loadVar,isAgg,aY hT,load,Sem.run,h.cell]
theorem sL (b:Nat) {w:World}:∀(l:List Value) (o i:Nat) (acc:Array Value),(∀j u,l[j]? = some u→w.cell? ⟨b,o+i+j,none⟩=some u)→
    (loadCellsFrom ⟨b,o,none⟩ i l.length acc).run P w= .ok (acc++l.toArray) w:=by
  intro l
  induction l with
  | nil=>intro o i acc h; simp [loadCellsFrom]
  | cons v l ih=>
    intro o i acc h;have h0:=h 0 v rfl;simp only [nN] at h0;simp only [ak,loadCellsFrom,dp,load,gA,Sem.run,h0,Result.andThen];rw [ih o (i+1) (acc.push v) (fun j u hu=>by have:=h (j+1) u hu; rwa [show o+i+(j+1)=o+(i+1)+j by omega] at this)];simp
theorem oJ {w:World} {T:TypeId} {b o:Nat} {l:List Value} (hT:(P.underlying T).map (fun d=>match d with | .struct _ | .array _ _=>true | _=>false)=some true) (hs:(P.info? T).map (·.size)=some l.length)
    (h:∀j u,l[j]? = some u→w.cell? ⟨b,o+j,none⟩=some u):(loadVar T ⟨b,o,none⟩).run P w= .ok (.agg l.toArray) w:=by
  obtain ⟨ti,hti,hsz⟩:=Option.map_eq_some_iff.1 hs;obtain ⟨d,hd,hag⟩:=Option.map_eq_some_iff.1 hT;have h1:=sL (P:=P) (w:=w) b l o 0 #[] (fun j u hu=>h j u hu);have h2:(isAgg T).run P w= .ok true w:=by
    cases d <;> simp_all [isAgg,aY hd]
  rw [←hsz] at h1;simp [loadVar,h2,sizeOf,typeInfo,hti,loadCells,h1,Result.andThen]
theorem Dp {T:TypeId} {b o:Nat} {l:List Value} (hT:(P.underlying T).map (fun d=>match d with | .struct _ | .array _ _=>true | _=>false)=some true) (hs:(P.info? T).map (·.size)=some l.length)
    (h:∀j u,l[j]? = some u→Im c b (o+j) u):(Instr.loadAt T (.pointer (some ⟨b,o,none⟩))).run P c.w= .ok (.agg l.toArray) c.w:=by
  simp only [Instr.loadAt,Instr.sureAddr,gA,Bk,Result.andThen];exact oJ hT hs fun j u hu=>(h j u hu).cell
theorem KG {b o k:Nat} {L l:List Value} (h:∀j u,L[j]? = some u→Im c b (o+j) u) (hl:(L.drop k).take l.length=l):∀j u,l[j]? = some u→Im c b (o+k+j) u:=fun j u hu=>by
  rw [←hl,aK] at hu;split at hu
  · rw [bH] at hu
    have:=h _ _ hu
    rwa [sx]
  · cases hu
theorem En.on.cell {e:En} (h:e.on c) {b:Nat} (hb:blk e.v=some b) (j:Nat):c.w.cell? ⟨b,j,none⟩=e.vs[j]? :=by
  simp [World.cell?,(h.ce hb).1]
theorem Aq {T:TypeId} {e:En} {b j:Nat} {v:Value} {d:TypeDesc} (hT:P.underlying T=some d) (hd:(match d with | .struct _ | .array _ _=>false | _=>true)=true)
    (h:e.on c) (hb:blk e.v=some b) (hj:e.vs[j]? = some v):(Instr.loadAt T (.pointer (some ⟨b,j,none⟩))).run P c.w= .ok v c.w:=by
  have hc:c.w.cell? ⟨b,j,none⟩=some v:=by rw [h.cell hb,hj]
  cases d <;> simp_all [Instr.loadAt,Instr.sureAddr,loadVar,isAgg,aY hT,load,Sem.run]
theorem Jv {T:TypeId} {e:En} {b j:Nat} {l:List Value} (hT:(P.underlying T).map (fun d=>match d with | .struct _ | .array _ _=>true | _=>false)=some true) (hs:(P.info? T).map (·.size)=some l.length)
    (h:e.on c) (hb:blk e.v=some b) (hl:(e.vs.drop j).take l.length=l):(Instr.loadAt T (.pointer (some ⟨b,j,none⟩))).run P c.w= .ok (.agg l.toArray) c.w:=by
  simp only [Instr.loadAt,Instr.sureAddr,gA,Bk,Result.andThen];refine oJ hT hs fun i u hu=>?_;have:(e.vs.drop j)[i]? = some u:=by
    rw [←hl,aK] at hu;split at hu
    · exact hu
    · cases hu
  rw [bH] at this;rw [h.cell hb,this]
def mc:List Value→Prop
  | []=>True
  | u :: l=>u.oneCell'=true∧mc l
theorem mc.mem:∀{l:List Value},mc l→∀u∈l,u.oneCell'=true
  | [],_,u,hu=>by cases hu
  | a :: l,h,u,hu=>by
    rcases List.mem_cons.1 hu with rfl | hu
    · exact h.1
    · exact h.2.mem u hu
theorem frozen?_row {w w':World} {b:Nat} {l m:Array Value} {T:TypeId} (h:w.heap[b]? = some (.cells l T (0,0))) (h':w'.heap[b]? = some (.cells m T (0,0))) (ho:∀k,k≠b→w'.heap[k]? = w.heap[k]?) (a:Addr):w'.frozen? a=w.frozen? a:=by
  by_cases hk:a.block=b
  · simp [World.frozen?,hk,h,h']
  · simp [World.frozen?,ho _ hk]
theorem Cx.row {b:Nat} {l m:List Value} {T:TypeId} (h:c.w.heap[b]? = some (.cells l.toArray T (0,0))) (lim:Nat) (hA:∀o,c.A b o↔lim≤o) (hs:∀o,o < lim→m[o]? = l[o]?) (lim':Nat) (hl:lim≤lim'):
    ∃c':Cx,c'.w=c.w.setRow b m.toArray∧c.but (fun k=>k=b) c'∧c'.w.heap[b]? = some (.cells m.toArray T (0,0))∧∀o,c'.A b o↔lim'≤o:=by
  have hbk:=CC c.w b l.toArray m.toArray T (0,0) h;have hoth:∀k,k≠b→(c.w.setRow b m.toArray).heap[k]? = c.w.heap[k]? :=fun k hk=>Jc c.w b k _ hk;have hsz:(c.w.setRow b m.toArray).heap.size=c.w.heap.size:=by simp [World.setRow]
  refine ⟨⟨c.w.setRow b m.toArray,fun k o=>(k≠b∧c.A k o)∨(k=b∧lim'≤o),c.t⟩,rfl,⟨⟨rfl,rfl,by rw [hsz]; exact ao _,fun k o hk hnA=>?_,fun k hk hnA=>?_,fun a _ _=>frozen?_row h hbk hoth a,fun _ _ _ h=>h⟩,rfl,fun k hk hkb=>⟨hoth k hkb,fun o=>?_⟩⟩,hbk,fun o=>?_⟩
  · by_cases hkb:k=b
    · subst hkb
      have ho:o < lim:=by
        rcases aR o lim with h | h
        · exact h
        · exact absurd ((hA o).2 h) hnA
      refine ⟨?_,?_⟩
      · rw [cell_setRow_same c.w k o l.toArray _ T (0,0) h,fg c.w k o l.toArray T (0,0) h,bj,bj,hs o ho]
      · rintro (h | h)
        · exact h.1 rfl
        · omega
    · refine ⟨bZ (w:=c.w) (a:=⟨k,o,none⟩) (hoth k hkb),?_⟩
      rintro (h | h)
      · exact hnA h.2
      · exact hkb h.1
  · by_cases hkb:k=b
    · subst hkb
      exact absurd ((hA lim).2 (ao _)) (hnA lim)
    · exact hoth k hkb
  · simp [hkb]
  · simp
theorem stE {T:TypeId} {e:En} {b o:Nat} {us:List Value} {v:Value} (h:e.on c) (hb:blk e.v=some b) (hlim:e.lim=0) (hv:v.cells.toList=us) (hs:(P.info? T).map (·.size)=some us.length) (h1:mc us)
    (hl:o+us.length≤e.vs.length):∃c',(Instr.storeAt T (.pointer (some ⟨b,o,none⟩)) v).run P c.w= .ok () c'.w∧c.but (fun k=>k=b) c'∧(⟨e.v,e.T,e.vs.take o++us++e.vs.drop (o+us.length),0⟩:En).on c':=by
  obtain ⟨ti,hti,hsz⟩:=Option.map_eq_some_iff.1 hs;have hh:=h.ce hb;have h2:=zY P b o e.T us 0 e.vs.toArray c.w hh.1 (by simpa using hl) h1.mem;have hz:v.cells.size=us.length:=by rw [←hv]; simp
  simp only [nN] at h2;obtain ⟨c',e1,e2,e3,e4⟩:=Cx.row (m:=e.vs.take o++us++e.vs.drop (o+us.length)) hh.1 e.lim hh.2 (fun o ho=>by omega) 0 (by omega);refine ⟨c',?_,e2,En.on.mk (b:=b) hb ⟨e3,e4⟩⟩
  · rw [e1]
    simp [Instr.storeAt,Instr.sureAddr,storeVar,sizeOf,typeInfo,hti,hsz,hz,hv,h2,Result.andThen]
variable {ρ:Operand→Value} {o:Oper}
theorem Own.st {T:TypeId} {e:En} {b j:Nat} {us nw:List Value} {v:Value} (k:Nat) (O:Own c G F) (hx:execOp ρ o=(do Instr.storeAt T (.pointer (some ⟨b,j,none⟩)) v; pure Next.skip:Sem Next)) (hk:F[k]? = some e) (hb:blk e.v=some b) (hlim:e.lim=0)
    (hv:v.cells.toList=us) (hs:(P.info? T).map (·.size)=some us.length) (h1:mc us) (hl:Nat.ble (j+us.length) e.vs.length=true) (hn:e.vs.take j++us++e.vs.drop (j+us.length)=nw):
    ∃c',(execOp ρ o).run P c.w= .ok .skip c'.w∧c.le c'∧Own c' G (F.set k ⟨e.v,e.T,nw,0⟩):=by
  subst hn;obtain ⟨c',h1,h2,h3⟩:=stE (O.on k hk) hb hlim hv hs h1 (bh hl);exact ⟨c',by rw [hx]; exact rs h1,h2.le,O.set k hk h2 (fun b' hb'=>by rw [hb']; exact (xc hb).1) h3 (fun b h=> .inl h)⟩
theorem Own.stG {T:TypeId} {e:En} {b j:Nat} {us nw:List Value} {v:Value} {g k:Nat} {E:List En} (r:Nat) (O:Own c G F) (hx:execOp ρ o=(do Instr.storeAt T (.pointer (some ⟨b,j,none⟩)) v; pure Next.skip:Sem Next)) (hE:G g k=E) (hr:E[r]? = some e) (hb:blk e.v=some b) (hlim:e.lim=0)
    (hv:v.cells.toList=us) (hs:(P.info? T).map (·.size)=some us.length) (h1:mc us) (hl:Nat.ble (j+us.length) e.vs.length=true) (hn:e.vs.take j++us++e.vs.drop (j+us.length)=nw):
    ∃c',(execOp ρ o).run P c.w= .ok .skip c'.w∧c.le c'∧Own c' (jd G g k (E.set r ⟨e.v,e.T,nw,0⟩)) F:=by
  subst hn;obtain ⟨c',h1,h2,h3⟩:=stE (O.gon hE r hr) hb hlim hv hs h1 (bh hl);exact ⟨c',by rw [hx]; exact rs h1,h2.le,O.setR r hE hr h2 (fun b' hb'=>by rw [hb']; exact (xc hb).1) h3 (fun b h=> .inl h)⟩
theorem Cx.new (c:Cx) (vs:List Value) (T:TypeId) (lim:Nat):∃c':Cx,c'.w=c.w.alloc (.cells vs.toArray T)∧c.but (fun _=>False) c'∧c'.w.heap[c.w.heap.size]? = some (.cells vs.toArray T (0,0))∧c.w.heap.size < c'.w.heap.size∧∀o,c'.A c.w.heap.size o↔lim≤o:=
  ⟨⟨c.w.alloc (.cells vs.toArray T),fun k p=>(k < c.w.heap.size∧c.A k p)∨(k=c.w.heap.size∧lim≤p),c.t⟩,rfl,
   ⟨⟨rfl,rfl,by simp,fun k p hk hA=>⟨bZ (w:=c.w) (a:=⟨k,p,none⟩) (bM _ _ _ hk),by rintro (h | h); exact hA h.2; omega⟩,fun k hk _=>bM _ _ _ hk,fun a _ _=>GP _ _ _ _,fun _ _ _ h=>h⟩,rfl,
    fun k hk _=>⟨bM _ _ _ hk,fun p=>⟨by rintro (h | h); exact h.2; omega,fun h=> .inl ⟨hk,h⟩⟩⟩⟩,qv c.w _,by simp,fun o=>by simp⟩
theorem Own.al {T:TypeId} {vs:List Value} (O:Own c G F) (hr:(execOp ρ o).run P c.w= .ok (.value (.pointer (some ⟨c.w.heap.size,0,none⟩))) (c.w.alloc (.cells vs.toArray T))):
    ∃v c',(execOp ρ o).run P c.w= .ok (.value v) c'.w∧c.le c'∧∃b,v= .pointer (some ⟨b,0,none⟩)∧Own c' G (⟨.pointer (some ⟨b,0,none⟩),T,vs,0⟩ :: F):=by
  obtain ⟨c',h1,h2,h3,_,h4⟩:=Cx.new c vs T 0;refine ⟨_,c',by rw [h1]; exact hr,h2.le,_,rfl,O.cons h2 (fun _=>id) (fun b hb=>?_) (fun b hb=>?_)⟩
  · simp only [bk,az] at hb; subst hb; exact ⟨h3,h4⟩
  · simp only [bk,az] at hb; omega
theorem Own.bx {T:TypeId} {vs:List Value} (O:Own c G F) (hr:(execOp ρ o).run P c.w= .ok (.value (.pointer (some ⟨c.w.heap.size,0,none⟩))) (c.w.alloc (.cells vs.toArray T))):
    ∃v c',(execOp ρ o).run P c.w= .ok (.value v) c'.w∧c.le c'∧∃b,v= .pointer (some ⟨b,0,none⟩)∧Own c' G F∧∀j u,vs[j]? = some u→Im c' b (0+j) u:=by
  obtain ⟨c',h1,h2,h3,h5,h4⟩:=Cx.new c vs T vs.length;refine ⟨_,c',by rw [h1]; exact hr,h2.le,_,rfl,O.keep h2,fun j u hu=>⟨h5,fun hA=>?_,?_⟩⟩
  · have h6:=(h4 _).1 hA
    have:=(List.getElem?_eq_some_iff.1 hu).1;omega
  · rw [fg _ _ _ _ _ _ h3,bj,ep,hu]
def AR (R:Rp α) (c:Cx) (vs:List Value) (xs:List α):Prop:=∀i x,xs[i]? = some x→R.cells c ((vs.drop (i * R.size)).take R.size) x
def OA (R:Rp α) (c:Cx) (v:Value) (vs:List Value) (xs:List α):Prop:=
  0 < R.size∧((v= .slice none 0 0∧xs= [])∨∃g cap,v= .slice (some ⟨g,0,none⟩) xs.length cap∧xs.length≤cap∧cap≤maxLen∧cap * R.size≤vs.length)∧AR R c vs xs
def es (m:Bool) (R:Rp α) (v:Value) (E:TypeId) (vs:List Value) (xs:List α):En:=⟨v,E,vs,cond m 0 (xs.length * R.size)⟩
theorem AR.lw {vs:List Value} {xs:List α} (h:AR R c vs xs) (k:c.lw c'):AR R c' vs xs:=fun i x hx=>R.mono k (h i x hx)
theorem AR.mono {vs:List Value} {xs:List α} (h:AR R c vs xs) (k:c.le c'):AR R c' vs xs:=h.lw k.lw
theorem OA.lw {v:Value} {vs:List Value} {xs:List α} (h:OA R c v vs xs) (k:c.lw c'):OA R c' v vs xs:=⟨h.1,h.2.1,h.2.2.lw k⟩
theorem OA.mono {v:Value} {vs:List Value} {xs:List α} (h:OA R c v vs xs) (k:c.le c'):OA R c' v vs xs:=h.lw k.lw
theorem OA.nil (h0:0 < R.size):OA R c (.slice none 0 0) [] []:=⟨h0,.inl ⟨rfl,rfl⟩,fun i x h=>by simp at h⟩
theorem OA.one {v:Value} {vs:List Value} {xs:List α} (h:OA R c v vs xs):v.oneCell'=true:=by
  rcases h.2.1 with ⟨rfl,_⟩ | ⟨g,cap,rfl,_⟩ <;> rfl
theorem EV {v:Value} {vs:List Value} {xs:List α} {T E ty:TypeId} (hT:P.underlying T=some (.slice E)) (h:OA R c v vs xs) (w:World):
    (Builtin.len_ #[T] ty #[v]).run P w= .ok (.int .i64 (xs.length:Int)) w:=by
  rcases h.2.1 with ⟨rfl,rfl⟩ | ⟨g,cap,rfl,_⟩ <;> simp [Builtin.len_,aY hT,goInt]
theorem iH {β:Type} {a b:List β} {i s:Nat} (h:i+s≤a.length):((a++b).drop i).take s=(a.drop i).take s:=by
  rw [kH (by omega),eu (by rw [aN]; omega)]
theorem jv {i k s:Nat} (h:i < k):i * s+s≤k * s:=by
  have:=jC s (show i+1≤k by omega);rw [fh,mg] at this;exact this
theorem AR.len {vs:List Value} {xs:List α} (h:AR R c vs xs) (hp:0 < R.size):xs.length * R.size≤vs.length:=by
  rcases iR xs.length with h0 | h0
  · rw [h0,ut]; exact cR _
  · have hx:xs[xs.length - 1]? = some xs[xs.length - 1]:=ah (by omega)
    have:=R.len (h _ _ hx);rw [av,aN] at this;have e:xs.length * R.size=(xs.length - 1) * R.size+R.size:=by
      conv=>lhs; rw [show xs.length=xs.length - 1+1 by omega,fh,mg]
    omega
theorem OA.sl {v:Value} {E:TypeId} {vs:List Value} {xs:List α} (h:OA R c v vs xs) (hon:(es false R v E vs xs).on c):Sl R c v xs:=by
  obtain ⟨hp,h1,h2⟩:=h;rcases h1 with ⟨rfl,rfl⟩ | ⟨g,cap,rfl,hc,hm,hcs⟩
  · exact Sl.nl R c
  · obtain ⟨h3,h4⟩:=hon.ce (b:=g) rfl
    refine ⟨_,cap,rfl,hc,hm,fun i x hx=>⟨g,0,_,rfl,h2 i x hx,fun j u hu=>?_⟩⟩;have hj:j < R.size∧vs[i * R.size+j]? = some u:=by
      rw [aK] at hu;split at hu
      · rename_i hj
        exact ⟨hj,by rwa [bH] at hu⟩
      · cases hu
    have hi:=jv (s:=R.size) (List.getElem?_eq_some_iff.1 hx).1;refine ⟨(Array.getElem?_eq_some_iff.1 h3).1,fun hA=>?_,?_⟩
    · have:=(h4 _).1 hA
      simp only [es,Lx] at this;omega
    · rw [fg _ _ _ _ _ _ h3,bj,ep]
      exact hj.2
theorem Own.frz {v:Value} {E:TypeId} {vs:List Value} {xs:List α} (k:Nat) (O:Own c G F) (hk:F[k]? = some (es true R v E vs xs)) (h:OA R c v vs xs):
    ∃c',c'.w=c.w∧c.le c'∧Own c' G (F.set k (es false R v E vs xs))∧Sl R c' v xs:=by
  have hon:=O.on k hk
  let c':Cx:=⟨c.w,fun b o=>c.A b o∧¬(bk v=some b∧o < xs.length * R.size),c.t⟩
  have hle:c.le c':=⟨rfl,rfl,ao _,fun _ _ _ h=>⟨rfl,fun h2=>h h2.1⟩,fun _ _ _=>rfl,fun _ _ _=>rfl,fun _ _ _ h=>h⟩;have hb:c.but (fun b=>bk v=some b) c':=⟨hle,rfl,fun b hb hd=>⟨rfl,fun o=>⟨fun h=>h.1,fun h=>⟨h,fun h2=>hd h2.1⟩⟩⟩⟩;have hon':(es false R v E vs xs).on c':=fun b hb=>by
    obtain ⟨h1,h2⟩:=hon b hb;refine ⟨h1,fun o=>?_⟩;have hb':bk v=some b:=hb;simp only [c',hb',zN,es,Lx];rw [h2 o];simp [es]
  exact ⟨c',rfl,hle,O.set k hk hb (fun b h=>h) hon' (fun b h=> .inl h),(h.mono hle).sl hon'⟩
theorem Sl.flat {u:Value} {ys:List α} (h:Sl R c u ys):∃nw:List Value,nw.length=ys.length * R.size∧(∀j w,nw[j]? = some w→Im c (sb u) (so u+j) w)∧(∀w∈nw,w.oneCell'=true)∧
    (∀i x,ys[i]? = some x→R.cells c ((nw.drop (i * R.size)).take R.size) x):=by
  suffices ∀k,k≤ys.length→∃nw:List Value,nw.length=k * R.size∧(∀j w,nw[j]? = some w→Im c (sb u) (so u+j) w)∧(∀w∈nw,w.oneCell'=true)∧
      (∀i x,i < k→ys[i]? = some x→R.cells c ((nw.drop (i * R.size)).take R.size) x) by
    obtain ⟨nw,h1,h2,h3,h4⟩:=this ys.length (ao _);exact ⟨nw,h1,h2,h3,fun i x hx=>h4 i x (List.getElem?_eq_some_iff.1 hx).1 hx⟩
  intro k
  induction k with
  | zero=>exact fun _=>⟨[],by simp,by simp,by simp,fun i x hi=>by omega⟩
  | succ k ih=>
    intro hk;obtain ⟨nw,h1,h2,h3,h4⟩:=ih (by omega);have hx:ys[k]? = some ys[k]:=ah (by omega);obtain ⟨l,hl,hc⟩:=h.at hx;have hll:=R.len hl;refine ⟨nw++l,by rw [ag,h1,hll,fh,mg],fun j w hw=>?_,fun w hw=>?_,fun i x hi hxi=>?_⟩
    · rcases aR j nw.length with hj | hj
      · rw [aG hj] at hw
        exact h2 j w hw
      · rw [aV hj] at hw
        have:=hc _ _ hw;rw [h1] at this
        rwa [show so u+k * R.size+(j - k * R.size)=so u+j by omega] at this
    · rcases List.mem_append.1 hw with hw | hw
      · exact h3 w hw
      · exact R.one hl w hw
    · rcases aR i k with hik | hik
      · rw [iH (by rw [h1]; exact jv hik)]
        exact h4 i x hik hxi
      · obtain rfl:i=k:=by omega
        rw [hx] at hxi;cases hxi;rw [←h1,eJ,aJ (by omega)];exact hl
theorem pO (z:Array Value) (n:Nat):(Builtin.zeroCells z n).size=n * z.size:=by simp [Builtin.zeroCells]
theorem Bg {E t ty:TypeId} {v:Value} {vs:List Value} {xs ys zs:List α} {z:Value} {by_:Nat} {m:Bool} {ua:Option Addr} {ucap:Nat} {nw:List Value} (k:Nat) (O:Own c G F) (hk:F[k]? = some (es m R v E vs xs)) (h:OA R c v vs xs)
    (n1:nw.length=ys.length * R.size) (n2:ys≠ []→∃ub uo,ua=some ⟨ub,uo,none⟩∧∀j w,nw[j]? = some w→c.w.cell? ⟨ub,uo+j,none⟩=some w) (n3:∀w∈nw,w.oneCell'=true) (n4:∀i x,ys[i]? = some x→R.cells c ((nw.drop (i * R.size)).take R.size) x) (happ:app xs ys=some zs)
    (hT:P.underlying t=some (.slice E)) (hi:(P.info? E).map (fun i=>(i.zero,i.size,i.bytes))=some (some z,R.size,by_)) (hz:z.cells.size=R.size) (hbytes:(xs.length+ys.length) * by_≤140737488355328):
    ∃v' c',(Builtin.append_ #[t,t] ty #[v,.slice ua ys.length ucap]).run P c.w= .ok v' c'.w∧c.le c'∧∃vs',Own c' G (F.set k (es m R v' E vs' zs))∧OA R c' v' vs' zs:=by
  have hfar:xs.length+ys.length≤far∧xs++ys=zs:=by
    unfold app at happ;split at happ
    · exact ⟨by assumption,by simpa using happ⟩
    · cases happ
  obtain ⟨hfar,rfl⟩:=hfar;unfold far at hfar;obtain ⟨ti,hti,hzz⟩:=Option.map_eq_some_iff.1 hi;simp only [gE] at hzz;obtain ⟨hz1,hz2,hz3⟩:=hzz;have hon:=O.on k hk;have hklt:=(List.getElem?_eq_some_iff.1 hk).1;have hh:=h;obtain ⟨hp,h1,h2⟩:=h;by_cases hys:ys= []
  · subst hys
    refine ⟨v,c,?_,Cx.le.refl c,vs,?_,by rw [eP]; exact hh⟩
    · rcases h1 with ⟨rfl,rfl⟩ | ⟨g,cap,rfl,hcap,_⟩
      · cases ua <;> simp [Builtin.append_,aY hT,sizeOf,typeInfo,hti,Builtin.lenOf,Builtin.firstCells,loadCells,loadCellsFrom,storeCells]
      · cases ua <;> simp [Builtin.append_,aY hT,sizeOf,typeInfo,hti,Builtin.lenOf,Builtin.firstCells,loadCells,loadCellsFrom,storeCells,hcap]
    · rw [eP]
      have:F.set k (es m R v E vs xs)=F:=by
        apply dy;intro j;by_cases hj:k=j
        · subst hj; rw [be hklt,hk]
        · rw [aT hj]
      rw [this]; exact O
  · have hpos:0 < ys.length:=by
      rcases iR ys.length with h | h
      · exact absurd (aW h) hys
      · exact h
    obtain ⟨ub,uo,hua,n5⟩:=n2 hys;subst hua;have hcells:∀j w,nw[j]? = some w→c.w.cell? ((⟨ub,uo,none⟩:Addr).add j)=some w:=fun j w hw=>by
      rw [dp];exact n5 j w hw
    have hN:(xs++ys).length=xs.length+ys.length:=ag;have hxl:=h2.len hp;have helem:∀(c':Cx) (tail:List Value),c.le c'→AR R c' (vs.take (xs.length * R.size)++nw++tail) (xs++ys):=fun c' tail hcc i x hx=>by
      have hlt:(vs.take (xs.length * R.size)).length=xs.length * R.size:=by rw [av]; omega
      rcases aR i xs.length with hi' | hi'
      · have hm:=jv (s:=R.size) hi'
        rw [aD,iH (by rw [hlt]; exact hm)];rw [aG hi'] at hx;have:=h2 i x hx;rw [gN,iS,show min R.size (xs.length * R.size - i * R.size)=R.size by omega];exact R.mono hcc this
      · rw [aV hi'] at hx
        have h4:=n4 _ _ hx;have hiy:=jv (s:=R.size) (List.getElem?_eq_some_iff.1 hx).1;have e:i * R.size=xs.length * R.size+(i - xs.length) * R.size:=by rw [←fh]; congr 1; omega
        have e2:(vs.take (xs.length * R.size)++(nw++tail)).drop (xs.length * R.size)=nw++tail:=by
          conv=>lhs; arg 1; rw [←hlt]
          exact eJ
        rw [aD,e,←de,e2,iH (by rw [n1]; omega)];exact R.mono hcc h4
    have hbytes:(xs.length+ys.length) * ti.bytes≤140737488355328:=by
      rw [hz3];exact hbytes
    have fresh:∀old,old < xs.length+ys.length→
        ∃v' c',Result.ok (α:=Value) (.slice (some ⟨c.w.heap.size,0,none⟩) (xs.length+ys.length) (grownCap c.w (xs.length+ys.length) old E)) (c.w.drew.alloc (.cells ((vs.take (xs.length * R.size)).toArray++nw.toArray++Builtin.zeroCells z.cells (grownCap c.w (xs.length+ys.length) old E - (xs.length+ys.length))) E))= .ok v' c'.w∧c.le c'∧
        ∃vs',Own c' G (F.set k (es m R v' E vs' (xs++ys)))∧OA R c' v' vs' (xs++ys):=by
      intro old ho;have hge:=wA c.w (xs.length+ys.length) old E;have hcm:grownCap c.w (xs.length+ys.length) old E≤maxLen:=nf c.w _ old E (by unfold maxLen; omega);have hd:=Cx.drew_le c;obtain ⟨c',e1,e2,e3,e4,e5⟩:=Cx.new ⟨c.w.drew,c.A,c.t⟩ ((vs.take (xs.length * R.size))++nw++(Builtin.zeroCells z.cells (grownCap c.w (xs.length+ys.length) old E - (xs.length+ys.length))).toList) E (cond m 0 ((xs++ys).length * R.size));have ea:((vs.take (xs.length * R.size))++nw++(Builtin.zeroCells z.cells (grownCap c.w (xs.length+ys.length) old E - (xs.length+ys.length))).toList).toArray=(vs.take (xs.length * R.size)).toArray++nw.toArray++Builtin.zeroCells z.cells (grownCap c.w (xs.length+ys.length) old E - (xs.length+ys.length)):=by
        apply LJ; simp
      refine ⟨.slice (some ⟨c.w.heap.size,0,none⟩) (xs.length+ys.length) (grownCap c.w (xs.length+ys.length) old E),c',by rw [e1,ea],hd.le.trans e2.le,(vs.take (xs.length * R.size))++nw++(Builtin.zeroCells z.cells (grownCap c.w (xs.length+ys.length) old E - (xs.length+ys.length))).toList,Own.set (O.keep hd) k hk e2 (fun b (h:False)=>h.elim) (fun b hb=>?_) (fun b hb=>?_),hp,.inr ⟨c.w.heap.size,_,by rw [hN],by rw [hN]; exact hge,hcm,?_⟩,?_⟩
      · simp only [es,bk,az] at hb; subst hb; exact ⟨e3,e5⟩
      · simp only [es,bk,az] at hb; subst hb; exact .inr (ao _)
      · simp only [ag,xL,pO,hz,n1,av]
        have:grownCap c.w (xs.length+ys.length) old E * R.size=xs.length * R.size+ys.length * R.size+(grownCap c.w (xs.length+ys.length) old E - (xs.length+ys.length)) * R.size:=by
          rw [←fh,←fh]; congr 1; omega
        rw [this,cH hxl];exact ao _
      · exact helem c' _ (hd.le.trans e2.le)
    rcases h1 with ⟨rfl,rfl⟩ | ⟨g,cap,rfl,hnc,hcm,hcs⟩
    · have hr:=run_append_nil (P:=P) c.w t ty E ti z hT hti hz1 ⟨ub,uo,none⟩ ys.length ucap nw (by rw [n1,hz2]) hcells hpos (by simp at hfar; omega) (by have:=hbytes; simp at this; omega)
      have:=fresh 0 (by simpa using hpos);simp only [aB,ep,ut,mh,LK,bq] at this hr⊢;rw [hr];simpa using this
    · obtain ⟨hg,hA⟩:=hon.ce (b:=g) rfl
      by_cases hroom:xs.length+ys.length≤cap
      · have hfit:xs.length * R.size+nw.length≤vs.length:=by
          rw [n1,←fh];exact cQ (jC _ hroom) hcs
        have hr:=L4 (P:=P) c.w t ty E ti hT hti g xs.length cap vs.toArray hg ⟨ub,uo,none⟩ ys.length ucap nw (by rw [n1,hz2]) hcells n3 hroom (by rw [hz2]; simpa using hfit);rw [hz2] at hr;simp only at hr;obtain ⟨c',e1,e2,e3,e4⟩:=Cx.row (m:=vs.take (xs.length * R.size)++nw++vs.drop (xs.length * R.size+nw.length)) hg _ hA (fun o ho=>by
          have ho:o < xs.length * R.size:=by
            cases m
            · exact ho
            · exact absurd ho (Ep _)
          rw [aD,aG (by rw [av]; omega),aK,af ho];rfl) (cond m 0 ((xs++ys).length * R.size)) (by
            cases m
            · simp only [es,Lx]; exact jC _ (by rw [hN]; omega)
            · exact ao _)
        refine ⟨.slice (some ⟨g,0,none⟩) (xs.length+ys.length) cap,c',by rw [hr,e1],e2.le,vs.take (xs.length * R.size)++nw++vs.drop (xs.length * R.size+nw.length),Own.set O k hk e2 (fun b h=>by subst h; rfl) (fun b hb=>?_) (fun b hb=> .inl hb),hp,.inr ⟨g,cap,by rw [hN],by rw [hN]; exact hroom,hcm,?_⟩,helem c' _ e2.le⟩
        · simp only [es,bk,az] at hb; subst hb; exact ⟨e3,e4⟩
        · simp only [ag,aN,av]
          omega
      · have holds:∀j w,(vs.take (xs.length * R.size))[j]? = some w→c.w.cell? ((⟨g,0,none⟩:Addr).add j)=some w:=fun j w hw=>by
          rw [dp,ep,fg _ _ _ _ _ _ hg,bj];rw [aK] at hw;split at hw
          · exact hw
          · cases hw
        have hr:=run_append_grow (P:=P) c.w t ty E ti z hT hti hz1 ⟨g,0,none⟩ xs.length cap (vs.take (xs.length * R.size)) (by rw [av,hz2]; omega) holds ⟨ub,uo,none⟩ ys.length ucap nw (by rw [n1,hz2]) hcells (by omega) (by omega) (FT (by omega) hbytes);rw [hr];exact fresh cap (by omega)
theorem xe {E t ty:TypeId} {v:Value} {vs:List Value} {xs ys zs:List α} {z:Value} {by_:Nat} {m:Bool} {ua:Option Addr} {ucap:Nat} {nw:List Value} (k:Nat) (O:Own c G F) (hk:F[k]? = some (es m R v E vs xs)) (h:OA R c v vs xs)
    (n1:nw.length=ys.length * R.size) (n2:ys≠ []→∃ub uo,ua=some ⟨ub,uo,none⟩∧∀j w,nw[j]? = some w→c.w.cell? ⟨ub,uo+j,none⟩=some w) (n3:∀w∈nw,w.oneCell'=true) (n4:∀i x,ys[i]? = some x→R.cells c ((nw.drop (i * R.size)).take R.size) x) (happ:app xs ys=some zs)
    (hT:P.underlying t=some (.slice E)) (hi:(P.info? E).map (fun i=>(i.zero,i.size,i.bytes))=some (some z,R.size,by_)) (hz:z.cells.size=R.size) (hby:Nat.ble by_ 128=true):
    ∃v' c',(Builtin.append_ #[t,t] ty #[v,.slice ua ys.length ucap]).run P c.w= .ok v' c'.w∧c.le c'∧∃vs',Own c' G (F.set k (es m R v' E vs' zs))∧OA R c' v' vs' zs:=by
  refine Bg k O hk h n1 n2 n3 n4 happ hT hi hz ?_;have hby:=bh hby;have hfar:xs.length+ys.length≤far:=by
    unfold app at happ;split at happ
    · assumption
    · cases happ
  exact cQ (GQ hfar hby) (by decide)
theorem Eo {E t ty:TypeId} {v u:Value} {vs:List Value} {xs ys zs:List α} {z:Value} {by_:Nat} {m:Bool} (k:Nat) (O:Own c G F) (hk:F[k]? = some (es m R v E vs xs)) (h:OA R c v vs xs) (hS:Sl R c u ys) (happ:app xs ys=some zs)
    (hT:P.underlying t=some (.slice E)) (hi:(P.info? E).map (fun i=>(i.zero,i.size,i.bytes))=some (some z,R.size,by_)) (hz:z.cells.size=R.size) (hby:Nat.ble by_ 128=true):
    ∃v' c',(Builtin.append_ #[t,t] ty #[v,u]).run P c.w= .ok v' c'.w∧c.le c'∧∃vs',Own c' G (F.set k (es m R v' E vs' zs))∧OA R c' v' vs' zs:=by
  obtain ⟨nw,n1,n2,n3,n4⟩:=hS.flat;obtain ⟨ua,ucap,rfl,hu1,hu2,hu3⟩:=hS;refine xe k O hk h n1 (fun hys=>?_) n3 n4 happ hT hi hz hby;have hpos:0 < ys.length:=by
    rcases iR ys.length with h | h
    · exact absurd (aW h) hys
    · exact h
  obtain ⟨ub,uo,_,hua,_⟩:=hu3 0 ys[0] (ah hpos);subst hua;exact ⟨ub,uo,rfl,fun j w hw=>(n2 j w hw).cell⟩
end
end Go.Lt
namespace Go.Lt
section
variable {P:Program} {c c':Cx} {G:Gm} {F:List En} {α:Type} {R:Rp α} {ρ:Operand→Value} {o:Oper}
variable {n:Fr} {ops:Array Oper} {Q:Exit→(Nat→Value)→World→Prop} {rest:List Oper} {e:Nat→Value} {D:List Nat} {K:Cx→Prop} {l:List Oper} {fuel:Nat} {li:List Bool}
theorem WL.mem {X:Value→Cx→Prop} (hg:o.guard=none) (hr:∃v c',(execOp (ev n e) o).run P c.w= .ok (.value v) c'.w∧c.le c'∧X v c')
  (h:∀v c',c.le c'→X v c'→WL P ops n Q rest (upO e o.dst v) c'.w):WL P ops n Q (o :: rest) e c.w:=by
 obtain ⟨v,c',h1,h2,h3⟩:=hr;exact WL.val hg h1 (h v c' h2 h3)
theorem WL.memD {X:Cx→Prop} (hg:o.guard=none) (hr:∃c',(execOp (ev n e) o).run P c.w= .ok .skip c'.w∧c.le c'∧X c')
  (h:∀c',c.le c'→X c'→WL P ops n Q rest (upO e o.dst undef) c'.w):WL P ops n Q (o :: rest) e c.w:=by
 obtain ⟨c',h1,h2,h3⟩:=hr;exact WL.do_ hg h1 (h c' h2 h3)
theorem Go1.mem (i:Nat) {X:Value→Cx→Prop} (hi:l.toArray[i]? = some o) (hsl:eR n l=true) (hw:ig l.toArray n e o=true) (hr:∃v c',(execOp (ev n e) o).run P c.w= .ok (.value v) c'.w∧c.le c'∧X v c')
  (h:∀v c',c.le c'→X v c'→(D.contains i=true∨K c')∧AC D K P l n Q fuel (li.set i true) (upO e o.dst v) c'):Go1 D K P l n Q fuel li e c i:=by
 obtain ⟨v,c',h1,h2,h3⟩:=hr;have:=h v c' h2 h3;exact Go1.val hi hsl hw h1 h2 this.1 this.2
theorem Go1.memD (i:Nat) {X:Cx→Prop} (hi:l.toArray[i]? = some o) (hsl:eR n l=true) (hw:ig l.toArray n e o=true) (hr:∃c',(execOp (ev n e) o).run P c.w= .ok .skip c'.w∧c.le c'∧X c')
  (h:∀c',c.le c'→X c'→(D.contains i=true∨K c')∧AC D K P l n Q fuel (li.set i true) (upO e o.dst undef) c'):Go1 D K P l n Q fuel li e c i:=by
 obtain ⟨c',h1,h2,h3⟩:=hr;have:=h c' h2 h3;exact Go1.do_ hi hsl hw h1 h2 this.1 this.2
theorem Go1.callP (i:Nat) {f:FuncId} {args:Array Value} {X:Cx→Value→Prop} (hi:l.toArray[i]? = some o) (hsl:eR n l=true) (hw:ig l.toArray n e o=true)
  (hrun:(execOp (ev n e) o).run P c.w= .ok (.enter f args) c.w) (hc:Calls P f args c.w (aO c X))
  (h:∀v c',c.le c'→X c' v→(D.contains i=true∨K c')∧AC D K P l n Q fuel (li.set i true) (upO e o.dst v) c'):Go1 D K P l n Q fuel li e c i:=Go1.call hi hsl hw hrun hc h
theorem AC.one (i:Nat) (hr:Region.ready .any l.toArray li.toArray= [i]) (h:Go1 D K P l n Q fuel li e c i):AC D K P l n Q (fuel+1) li e c:=AC.many [i] (by simp) hr ⟨h,trivial⟩
theorem Sl.form {v:Value} {xs:List α} (h:Sl R c v xs):∃a n k,v= .slice a n k:=by
 obtain ⟨a,cap,h,_⟩:=h; exact ⟨_,_,_,h⟩
theorem OA.form {v:Value} {vs:List Value} {xs:List α} (h:OA R c v vs xs):∃a n k,v= .slice a n k:=by
 rcases h.2.1 with ⟨h,_⟩ | ⟨g,cap,h,_⟩ <;> exact ⟨_,_,_,h⟩
theorem Pt.form {g:Nat} {v:Value} {p:Option Nat} (h:Pt g c v p):∃a,v= .pointer a:=by
 cases p with
 | none=>exact ⟨_,h⟩
 | some p=>obtain ⟨b,h,_⟩:=h; exact ⟨_,h⟩
theorem va (v:Value) {w:World} (h:WL P ops n Q rest (upO e o.dst v) w) (hg:o.guard=none:=by exact rfl) (hr:(execOp (ev n e) o).run P w= .ok (.value v) w:=by kernel_rfl):WL P ops n Q (o :: rest) e w:=WL.val0 hg hr h
theorem vb {t b:Bool} {w:World} (ht:t=b) (h:WL P ops n Q rest (upO e o.dst (.bool b)) w) (hg:o.guard=none:=by exact rfl) (hr:(execOp (ev n e) o).run P w= .ok (.value (.bool t)) w:=by kernel_rfl):WL P ops n Q (o :: rest) e w:=WL.valb0 ht hg hr h
theorem ps {l:List Oper} {w:World} (h:WL P l.toArray n Q rest (upO e o.dst undef) w) (hs:eR n l=true:=by kernel_rfl) (hw:ig l.toArray n e o=false:=by kernel_rfl):WL P l.toArray n Q (o :: rest) e w:=WL.pass hs hw h
theorem wn {l:List Oper} {w:World} (h:WL P l.toArray n Q ({ o with guard:=none} :: rest) e w) (hs:eR n l=true:=by kernel_rfl) (hw:ig l.toArray n e o=true:=by kernel_rfl):WL P l.toArray n Q (o :: rest) e w:=WL.want hs hw h
theorem ta (i:Nat) (v:Value) (h:AC D K P l n Q fuel (li.set i true) (upO e o.dst v) c) (hi:l.toArray[i]? = some o:=by exact rfl) (ht:tk l n li i=true:=by kernel_rfl) (hw:ig l.toArray n e o=true:=by kernel_rfl)
  (hy:∀w,(execOp (ev n e) o).run P w= .ok (.value v) w:=by intro w; kernel_rfl):AC D K P l n Q (fuel+1) li e c:=AC.take i v hi ht hw (fun c' _=>hy c'.w) h
theorem sr {b:Code} {id:Nat} {l:List Oper} {w:World} (h:WL P l.toArray n (qf (W P n b Q) Q) l e w):W P n ((Code.region id l.toArray false).seq b) Q e w:=W.seq (W.region h)
theorem wln {K:(Nat→Value)→World→Prop} {Q:Exit→(Nat→Value)→World→Prop} {w:World} (h:K e w):WL P ops n (qf K Q) [] e w:=WL.nil (nrm h)
theorem vv {o':Oper} (v:Value) {w:World} (h:WL P ops n Q rest (upO (upO e o.dst v) o'.dst v) w) (hg:o.guard=none:=by exact rfl) (hr:(execOp (ev n e) o).run P w= .ok (.value v) w:=by kernel_rfl) (hg':o'.guard=none:=by exact rfl) (hr':(execOp (ev n (upO e o.dst v)) o').run P w= .ok (.value v) w:=by kernel_rfl):WL P ops n Q (o :: o' :: rest) e w:=va v (va v h hg' hr') hg hr
theorem wa {l:List Oper} (v:Value) {w:World} (h:WL P l.toArray n Q rest (upO e o.dst v) w) (hs:eR n l=true:=by kernel_rfl) (hw:ig l.toArray n e o=true:=by kernel_rfl) (hr:(execOp (ev n e) { o with guard:=none}).run P w= .ok (.value v) w:=by kernel_rfl):WL P l.toArray n Q (o :: rest) e w:=wn (va v h rfl hr) hs hw
theorem pz {l:List Oper} {o':Oper} {w:World} (h:WL P l.toArray n Q rest (upO (upO e o.dst undef) o'.dst undef) w) (hs:eR n l=true:=by kernel_rfl) (hw:ig l.toArray n e o=false:=by kernel_rfl) (hw':ig l.toArray n (upO e o.dst undef) o'=false:=by kernel_rfl):WL P l.toArray n Q (o :: o' :: rest) e w:=ps (ps h hs hw') hs hw
theorem OA.blk {v:Value} {vs:List Value} {xs:List α} {i:Int} {x:α} (h:OA R c v vs xs) (hi:idx xs i=some x):Go.Lt.blk v=some (sb v):=by
 rcases h.2.1 with ⟨_,rfl⟩ | ⟨g,cap,rfl,_⟩
 ·have:=la hi; simp at this; omega
 ·rfl
theorem BC {v:Value} {vs:List Value} {xs:List α} {T E:TypeId} {k:IntKind} {i:Int} {x:α} (hT:P.underlying T=some (.slice E)) (hE:(P.info? E).map (·.size)=some R.size)
  (h:OA R c v vs xs) (hi:idx xs i=some x) (w:World):(Instr.indexAt T v (.int k i)).run P w= .ok (.pointer (some ⟨sb v,i.toNat * R.size,none⟩)) w:=by
 obtain ⟨h1,h2⟩:=la hi;rcases h.2.1 with ⟨_,rfl⟩ | ⟨g,cap,rfl,_⟩
 ·simp at h2; omega
 ·obtain ⟨ti,hti,hsz⟩:=Option.map_eq_some_iff.1 hE;simp [Instr.indexAt,asIntOf,aY hT,h1,h2,sizeOf,typeInfo,hti,hsz,sb,dp]
theorem OA.at {v:Value} {vs:List Value} {xs:List α} {i:Int} {x:α} (h:OA R c v vs xs) (hi:idx xs i=some x):∃l,R.cells c l x∧(vs.drop (i.toNat * R.size)).take R.size=l:=⟨_,h.2.2 _ _ (bW hi),rfl⟩
theorem at1 {vs l:List Value} {p n j:Nat} {u:Value} (h:(vs.drop p).take n=l) (hj:l[j]? = some u):vs[p+j]? = some u:=by
 subst h;rw [aK] at hj;split at hj
 ·rwa [bH] at hj
 ·cases hj
theorem at2 {vs l l':List Value} {p n j:Nat} (h:(vs.drop p).take n=l) (hj:(l.drop j).take l'.length=l'):(vs.drop (p+j)).take l'.length=l':=by
 subst h
 conv=>rhs; rw [←hj]
 rw [gN,de,iS];have h1:=dG List.length hj;rw [gN,de,iS,av] at h1
 congr 1
 omega
theorem Own.stO {T E:TypeId} {v:Value} {vs:List Value} {xs xs':List α} {i:Int} {x x':α} {j:Nat} {us l l':List Value} {u:Value} (k:Nat) (O:Own c G F) (hx:execOp ρ o=(do Instr.storeAt T (.pointer (some ⟨sb v,i.toNat * R.size+j,none⟩)) u; pure Next.skip:Sem Next))
  (hk:F[k]? = some (es true R v E vs xs)) (h:OA R c v vs xs) (hset:mj xs i x'=some xs') (hm:(vs.drop (i.toNat * R.size)).take R.size=l) (hv:u.cells.toList=us) (hs:(P.info? T).map (·.size)=some us.length) (h1:mc us)
  (hl:Nat.ble (j+us.length) R.size=true) (hn:l.take j++us++l.drop (j+us.length)=l') (hx':R.cells c l' x'):
  ∃c',(execOp ρ o).run P c.w= .ok .skip c'.w∧c.le c'∧∃vs',Own c' G (F.set k (es true R v E vs' xs'))∧OA R c' v vs' xs':=by
 have hl:=bh hl;unfold mj at hset;split at hset
 ·rename_i hi
  cases hset;have hbk:Go.Lt.blk v=some (sb v):=by
   rcases h.2.1 with ⟨_,rfl⟩ | ⟨g,cap,rfl,_⟩
   ·exfalso; simp at hi; omega
   ·rfl
  have hp:=h.1;have hxl:=h.2.2.len hp;have hms:=jv (s:=R.size) (show i.toNat < xs.length by omega);obtain ⟨c',r1,r2,r3⟩:=stE (P:=P) (T:=T) (o:=i.toNat * R.size+j) (O.on k hk) hbk rfl hv hs h1 (by simp only [es]; omega);have hlen:(vs.take (i.toNat * R.size+j)++us++vs.drop (i.toNat * R.size+j+us.length)).length=vs.length:=by
   simp only [ag,av,aN]; omega
  refine ⟨c',by rw [hx]; exact rs r1,r2.le,_,O.set k hk r2 (fun b hb=>by rw [hb]; exact (xc hbk).1) (e':=es true R v E (vs.take (i.toNat * R.size+j)++us++vs.drop (i.toNat * R.size+j+us.length)) (xs.set i.toNat x')) r3 (fun b h=> .inl h),hp,?_,fun q y hy=>?_⟩
  ·rcases h.2.1 with ⟨_,rfl⟩ | ⟨g,cap,h2,h3,h4,h5⟩
   ·exfalso; simp at hi; omega
   ·exact .inr ⟨g,cap,by rw [cf]; exact h2,by rw [cf]; exact h3,h4,by rw [hlen]; exact h5⟩
  ·by_cases hq:q=i.toNat
   ·subst hq;rw [be (by omega)] at hy;cases hy;have:((vs.take (i.toNat * R.size+j)++us++vs.drop (i.toNat * R.size+j+us.length)).drop (i.toNat * R.size)).take R.size=l':=by
     rw [←hn,←hm];rw [aD,kH (by rw [av]; omega),gN];have e1:i.toNat * R.size+j - i.toNat * R.size=j:=by omega
     rw [e1,iS,cH (by omega),aD,gN,de,Cl,Cl];have h6:((vs.drop (i.toNat * R.size)).take j).length=j:=by rw [av,aN]; omega
     rw [h6,aJ (by omega),aJ (l:=us) (by omega)]
     congr 2
     rw [sx]
     congr 1
     omega
    rw [this];exact R.mono r2.le hx'
   ·rw [aT (rS hq)] at hy;have hold:=h.2.2 q y hy;have hqm:=jv (s:=R.size) (List.getElem?_eq_some_iff.1 hy).1;have:((vs.take (i.toNat * R.size+j)++us++vs.drop (i.toNat * R.size+j+us.length)).drop (q * R.size)).take R.size=(vs.drop (q * R.size)).take R.size:=by
     rcases aR q i.toNat with hlt | hge
     ·have:=jv (s:=R.size) hlt;rw [aD,iH (by rw [av]; omega),gN,iS,cH (by omega)]
     ·have:=jv (s:=R.size) (show i.toNat < q by omega);have h7:(vs.take (i.toNat * R.size+j)++us).length=i.toNat * R.size+j+us.length:=by rw [ag,av]; omega
      rw [show q * R.size=(vs.take (i.toNat * R.size+j)++us).length+(q * R.size - (i.toNat * R.size+j+us.length)) by omega,←de,eJ,de]
      congr 2
      omega
    rw [this];exact R.mono r2.le hold
 ·cases hset
theorem Own.stW {T E:TypeId} {v:Value} {vs:List Value} {xs xs':List α} {i:Int} {x':α} {us:List Value} {u:Value} (k:Nat) (O:Own c G F) (hx:execOp ρ o=(do Instr.storeAt T (.pointer (some ⟨sb v,i.toNat * R.size,none⟩)) u; pure Next.skip:Sem Next))
  (hk:F[k]? = some (es true R v E vs xs)) (h:OA R c v vs xs) (hset:mj xs i x'=some xs') (hv:u.cells.toList=us) (hs:(P.info? T).map (·.size)=some us.length) (h1:mc us) (hl:us.length=R.size) (hx':R.cells c us x'):
  ∃c',(execOp ρ o).run P c.w= .ok .skip c'.w∧c.le c'∧∃vs',Own c' G (F.set k (es true R v E vs' xs'))∧OA R c' v vs' xs':=by
 have hi:0≤i∧i < xs.length:=by
  unfold mj at hset;split at hset
  ·assumption
  ·cases hset
 have hc:=h.2.2 i.toNat xs[i.toNat] (ah (by omega));have hlen:=R.len hc;refine Own.stO (x:=xs[i.toNat]) (j:=0) (us:=us) (l':=us) k O (by rw [hx]; rfl) hk h hset rfl hv hs h1 ?_ ?_ hx'
 ·rw [ep,hl]; exact lj (ao _)
 ·rw [mh,bq,ep,J4 (by rw [hlen,hl]; exact ao _),eP]
theorem Own.app {E t ty:TypeId} {v u:Value} {vs:List Value} {xs ys zs:List α} {z:Value} {by_:Nat} {m:Bool} (k:Nat) (O:Own c G F) (hk:F[k]? = some (es m R v E vs xs)) (h:OA R c v vs xs) (hS:Sl R c u ys) (happ:app xs ys=some zs)
  (hT:P.underlying t=some (.slice E)) (hi:(P.info? E).map (fun i=>(i.zero,i.size,i.bytes))=some (some z,R.size,by_)) (hz:z.cells.size=R.size) (hby:Nat.ble by_ 128=true)
  (hx:execOp ρ o=(do pure (Next.value (←Builtin.append_ #[t,t] ty #[v,u])):Sem Next)):
  ∃v' c',(execOp ρ o).run P c.w= .ok (.value v') c'.w∧c.le c'∧∃vs',Own c' G (F.set k (es m R v' E vs' zs))∧OA R c' v' vs' zs:=by
 obtain ⟨v',c',h1,h2,h3⟩:=Eo (P:=P) (t:=t) (ty:=ty) k O hk h hS happ hT hi hz hby;exact ⟨v',c',rx hx h1,h2,h3⟩
theorem BH {i:Int} {x:α} {xs:List α} (h:rep i x=some xs):i≤far:=by
 unfold rep at h;split at h
 ·rename_i h'; exact h'.2
 ·cases h
theorem Jf {i:Int} {x:α} {xs:List α} (h:rep i x=some xs):0≤i:=by
 unfold rep at h;split at h
 ·rename_i h'; exact h'.1
 ·cases h
def rB (R:Rp α) (c:Cx):List (List Value)→List α→Prop
 | [],[]=>True
 | l :: ls,x :: xs=>R.cells c l x∧rB R c ls xs
 | _,_=>False
theorem rB.len:∀{ls:List (List Value)} {xs:List α},rB R c ls xs→ls.flatten.length=xs.length * R.size
 | [],[],_=>by simp
 | l :: ls,x :: xs,h=>by
  simp only [rU,ag,ak,R.len h.1,rB.len h.2,fh,mg];omega
 | [],_ :: _,h=>h.elim
 | _ :: _,[],h=>h.elim
theorem rB.get:∀{ls:List (List Value)} {xs:List α},rB R c ls xs→AR R c ls.flatten xs
 | [],[],_=>fun i x h=>by simp at h
 | l :: ls,x :: xs,h=>fun i y hy=>by
  cases i with
  | zero=>
   simp only [fj,az] at hy;subst hy;rw [ut,iT,rU,←R.len h.1,nO];exact h.1
  | succ i=>
   simp only [fk] at hy;rw [rU,fh,mg,Nat.add_comm (i * R.size),←R.len h.1,←de,eJ,R.len h.1];exact rB.get h.2 i y hy
 | [],_ :: _,h=>h.elim
 | _ :: _,[],h=>h.elim
theorem Own.newS (m:Bool) {E:TypeId} {vs:List Value} {xs:List α} {cap:Nat} (O:Own c G F) (hp:0 < R.size) (hA:AR R c vs xs) (hc:xs.length≤cap) (hm:cap≤maxLen) (hcs:cap * R.size≤vs.length)
  (hr:(execOp ρ o).run P c.w= .ok (.value (.slice (some ⟨c.w.heap.size,0,none⟩) xs.length cap)) (c.w.alloc (.cells vs.toArray E))):
  ∃v c',(execOp ρ o).run P c.w= .ok (.value v) c'.w∧c.le c'∧∃vs,Own c' G (es m R v E vs xs :: F)∧OA R c' v vs xs:=by
 obtain ⟨c',h1,h2,h3,_,h4⟩:=Cx.new c vs E (cond m 0 (xs.length * R.size));refine ⟨_,c',by rw [h1]; exact hr,h2.le,vs,O.cons h2 (fun _=>id) (fun b hb=>?_) (fun b hb=>?_),hp,.inr ⟨_,_,rfl,hc,hm,hcs⟩,hA.mono h2.le⟩
 ·simp only [es,Go.Lt.bk,az] at hb; subst hb; exact ⟨h3,h4⟩
 ·simp only [es,Go.Lt.bk,az] at hb; omega
theorem Own.sl (m:Bool) {E:TypeId} {ls:List (List Value)} {vs:List Value} {xs:List α} (O:Own c G F) (hp:0 < R.size) (hv:ls.flatten=vs) (hR:rB R c ls xs) (hm:Nat.ble xs.length 4294967296=true)
  (hr:(execOp ρ o).run P c.w= .ok (.value (.slice (some ⟨c.w.heap.size,0,none⟩) xs.length xs.length)) (c.w.alloc (.cells vs.toArray E))):
  ∃v c',(execOp ρ o).run P c.w= .ok (.value v) c'.w∧c.le c'∧∃vs,Own c' G (es m R v E vs xs :: F)∧OA R c' v vs xs:=by
 subst hv;have hm:=bh hm;exact Own.newS m O hp hR.get (ao _) (by unfold maxLen; omega) (by rw [hR.len]; exact ao _) hr
theorem Own.mkS (m:Bool) {E t:TypeId} {z:Value} {lz:List Value} {x:α} {xs:List α} {by_:Nat} {kl kc:IntKind} {i j:Int} (O:Own c G F) (hp:0 < R.size) (hrep:rep i x=some xs) (hij:i≤j) (hj:j≤far) (hT:P.underlying t=some (.slice E))
  (hi:(P.info? E).map (fun i=>(i.zero,i.size,i.bytes))=some (some z,R.size,by_)) (hz:z.cells.toList=lz) (hzl:lz.length=R.size) (hzx:∀c,R.cells c lz x) (hby:Nat.ble by_ 128=true)
  (hx:execOp ρ o=(do pure (Next.value (←Instr.makeSlice t (.int kl i) (.int kc j))):Sem Next)):
  ∃v c',(execOp ρ o).run P c.w= .ok (.value v) c'.w∧c.le c'∧∃vs,Own c' G (es m R v E vs xs :: F)∧OA R c' v vs xs:=by
 have hby:=bh hby;unfold rep at hrep;split at hrep
 ·rename_i h0
  cases hrep;obtain ⟨ti,hti,hzz⟩:=Option.map_eq_some_iff.1 hi;simp only [gE] at hzz;obtain ⟨hz1,hz2,hz3⟩:=hzz;unfold far at hj;have hb:(ti.bytes:Int) * j≤281474976710656:=by
   rw [hz3];have:(by_:Int) * j≤128 * 1099511627776:=Int.mul_le_mul (by omega) (by omega) (by omega) (by omega);omega
  have hr:=run_make (P:=P) c.w t E ti z hT hti hz1 kl kc i j h0.1 hij hb (by omega);have hlen:(List.replicate i.toNat x).length=i.toNat:=by simp
  have key:(madeCells z.cells (j.toNat * ti.size)).toList=(madeCells z.cells (j.toNat * ti.size)).toList:=rfl;have hget:∀q,q < j.toNat * R.size→(madeCells z.cells (j.toNat * ti.size)).toList[q]? = lz[q % R.size]? :=fun q hq=>by
   have hzs:z.cells.size=R.size:=by rw [←hzl,←hz]; simp
   have hq2:q % R.size < lz.length:=by rw [hzl]; exact uv _ hp
   have hq3:q % z.cells.size < z.cells.size:=by rw [hzs]; exact uv _ hp
   simp only [madeCells,Cn,Array.toList_range,dx,hz2,pU hq,jr];rw [←hz,←hzs,Array.getElem?_toList,Array.getElem?_eq_getElem hq3];simp [getElem!_pos,hq3]
  refine Own.newS (vs:=(madeCells z.cells (j.toNat * ti.size)).toList) (cap:=j.toNat) m O hp (fun q y hy=>?_) (by rw [hlen]; omega) (by unfold maxLen; omega) (by simp [size_madeCells,hz2]) ?_
  ·have hy2:=List.getElem?_eq_some_iff.1 hy;obtain ⟨hq,hyx⟩:=hy2;simp at hyx;subst hyx;have hqi:q < i.toNat:=by simpa using hq
   have hm:=jv (s:=R.size) (show q < j.toNat by omega);have:((madeCells z.cells (j.toNat * ti.size)).toList.drop (q * R.size)).take R.size=lz:=by
    apply dy;intro r;rw [aK];split
    ·rename_i hr
     rw [bH,hget _ (by omega),J3 q,Nat.mul_add_mod,Cj hr]
    ·rename_i hr
     rw [bI (by omega)]
   rw [this];exact hzx c
  ·rw [hlen];exact rx hx (by rw [hr])
 ·cases hrep
theorem Sl.cut {xs:List α} {l h m:Nat} {a:Option Addr} {cap:Nat} (hS:Sl R c (.slice a xs.length cap) xs) (h1:l≤h) (h2:h≤xs.length) (h3:h≤m) (h4:m≤cap):
  Sl R c (.slice (if m=l then a else a.map (·.add (l * R.size))) (h - l) (m - l)) ((xs.drop l).take (h - l)):=by
 obtain ⟨a',cap',hv,h5,h6,h7⟩:=hS;cases hv;have hlen:((xs.drop l).take (h - l)).length=h - l:=by rw [av,aN]; omega
 refine ⟨_,m - l,by rw [hlen],by rw [hlen]; omega,by omega,fun i x hx=>?_⟩;rw [aK] at hx;split at hx
 ·rename_i hi
  rw [bH] at hx;obtain ⟨b,off,q,rfl,hq,hc⟩:=h7 _ _ hx;have hne:m≠l:=by omega
  refine ⟨b,off+l * R.size,q,?_,hq,fun j u hu=>?_⟩
  ·rw [ab hne]; simp [dp]
  ·have:=hc j u hu
   rwa [show off+(l+i) * R.size+j=off+l * R.size+i * R.size+j by rw [fh]; omega] at this
 ·cases hx
theorem qg {xs zs:List α} {i j:Int} (h:slc xs i j=some zs):0≤i∧i≤j∧j≤xs.length∧zs=(xs.drop i.toNat).take (j - i).toNat:=by
 unfold slc at h;split at h
 ·rename_i hh
  exact ⟨hh.1,hh.2.1,hh.2.2,by simpa using h.symm⟩
 ·cases h
theorem Hi {xs zs:List α} {i j:Int} (h:slc xs i j=some zs):(zs.length:Int)=j - i:=by
 obtain ⟨h1,h2,h3,rfl⟩:=qg h;rw [av,aN];omega
theorem qm {v:Value} {xs zs:List α} {T E:TypeId} {j:Int} {k':IntKind} (hT:P.underlying T=some (.slice E)) (hE:(P.info? E).map (·.size)=some R.size) (h:Sl R c v xs) (hz:slc xs 0 j=some zs):
  ∃v',(∀w,(Instr.sliceAt T v none (some (.int k' j)) none).run P w= .ok v' w)∧Sl R c v' zs:=by
 obtain ⟨h1,h2,h3,rfl⟩:=qg hz;obtain ⟨ti,hti,hsz⟩:=Option.map_eq_some_iff.1 hE;have hh:=h;obtain ⟨a,cap,rfl,h4,h5,h6⟩:=h;have hcut:=Sl.cut (l:=0) (h:=j.toNat) (m:=cap) hh (by omega) (by omega) (by omega) (ao _);rw [show (j - 0).toNat=j.toNat - 0 by omega];refine ⟨_,fun w=>?_,hcut⟩;have e2:0≤j∧j≤(cap:Int):=⟨by omega,by omega⟩;simp [Instr.sliceAt,aY hT,Instr.slice,Instr.sliceBounds,Instr.sliceBound,asIntOf,e2,sizeOf,typeInfo,hti]
theorem Own.cutH {v:Value} {vs:List Value} {xs zs:List α} {T E:TypeId} {j:Int} {k':IntKind} (k:Nat) (O:Own c G F) (hk:F[k]? = some (es true R v E vs xs)) (hT:P.underlying T=some (.slice E)) (h:OA R c v vs xs) (hE:(P.info? E).map (·.size)=some R.size) (hz:slc xs 0 j=some zs):
  ∃v',(∀w,(Instr.sliceAt T v none (some (.int k' j)) none).run P w= .ok v' w)∧Own c G (F.set k (es true R v' E vs zs))∧OA R c v' vs zs:=by
 obtain ⟨h1,h2,h3,rfl⟩:=qg hz;obtain ⟨ti,hti,hsz⟩:=Option.map_eq_some_iff.1 hE;have hlen:((xs.drop (0:Int).toNat).take (j - 0).toNat).length=j.toNat:=by simp; omega
 have hAR:AR R c vs ((xs.drop (0:Int).toNat).take (j - 0).toNat):=fun i x hx=>by
  rw [aK] at hx;split at hx
  ·simp at hx; exact h.2.2 i x hx
  ·cases hx
 rcases h.2.1 with ⟨rfl,rfl⟩ | ⟨g,cap,rfl,h4,h5,h6⟩
 ·obtain rfl:j=0:=by simp at h3; omega
  refine ⟨.slice none 0 0,fun w=>?_,?_,?_⟩
  ·simp [Instr.sliceAt,aY hT,Instr.slice,Instr.sliceBounds,Instr.sliceBound,asIntOf,sizeOf,typeInfo,hti]
  ·have:F.set k (es true R (.slice none 0 0) E vs (([]:List α).drop (0:Int).toNat |>.take (0 - 0:Int).toNat))=F:=by
    apply dy;intro q;by_cases hq:k=q
    ·subst hq; rw [be (List.getElem?_eq_some_iff.1 hk).1,hk]; rfl
    ·rw [aT hq]
   rw [this]; exact O
  ·exact ⟨h.1,.inl ⟨rfl,by simp⟩,hAR⟩
 ·refine ⟨.slice (some ⟨g,0,none⟩) j.toNat cap,fun w=>?_,?_,h.1,.inr ⟨g,cap,by rw [hlen],by rw [hlen]; omega,h5,h6⟩,hAR⟩
  ·have e2:0≤j∧j≤(cap:Int):=⟨by omega,by omega⟩;simp [Instr.sliceAt,aY hT,Instr.slice,Instr.sliceBounds,Instr.sliceBound,asIntOf,e2,sizeOf,typeInfo,hti,Addr.add]
  ·refine O.set k hk (D:=fun _=>False) ⟨Cx.le.refl c,rfl,fun _ _ _=>⟨rfl,fun _=>oD⟩⟩ (fun b (h:False)=>h.elim) (fun b hb=>?_) (fun b hb=> .inl hb);exact O.on k hk b hb
theorem Own.cutHM {v:Value} {vs:List Value} {xs zs:List α} {T E:TypeId} {j:Int} {k' k2:IntKind} (k:Nat) (O:Own c G F) (hk:F[k]? = some (es true R v E vs xs)) (hT:P.underlying T=some (.slice E)) (h:OA R c v vs xs) (hE:(P.info? E).map (·.size)=some R.size) (hz:slc xs 0 j=some zs):
  ∃v',(∀w,(Instr.sliceAt T v none (some (.int k' j)) (some (.int k2 j))).run P w= .ok v' w)∧Own c G (F.set k (es true R v' E vs zs))∧OA R c v' vs zs:=by
 obtain ⟨h1,h2,h3,rfl⟩:=qg hz;obtain ⟨ti,hti,hsz⟩:=Option.map_eq_some_iff.1 hE;have hlen:((xs.drop (0:Int).toNat).take (j - 0).toNat).length=j.toNat:=by simp; omega
 have hAR:AR R c vs ((xs.drop (0:Int).toNat).take (j - 0).toNat):=fun i x hx=>by
  rw [aK] at hx;split at hx
  ·simp at hx; exact h.2.2 i x hx
  ·cases hx
 rcases h.2.1 with ⟨rfl,rfl⟩ | ⟨g,cap,rfl,h4,h5,h6⟩
 ·obtain rfl:j=0:=by simp at h3; omega
  refine ⟨.slice none 0 0,fun w=>?_,?_,?_⟩
  ·simp [Instr.sliceAt,aY hT,Instr.slice,Instr.sliceBounds,Instr.sliceBound,asIntOf,sizeOf,typeInfo,hti]
  ·have:F.set k (es true R (.slice none 0 0) E vs (([]:List α).drop (0:Int).toNat |>.take (0 - 0:Int).toNat))=F:=by
    apply dy;intro q;by_cases hq:k=q
    ·subst hq; rw [be (List.getElem?_eq_some_iff.1 hk).1,hk]; rfl
    ·rw [aT hq]
   rw [this]; exact O
  ·exact ⟨h.1,.inl ⟨rfl,by simp⟩,hAR⟩
 ·refine ⟨.slice (some ⟨g,0,none⟩) j.toNat j.toNat,fun w=>?_,?_,h.1,.inr ⟨g,j.toNat,by rw [hlen],by rw [hlen]; omega,by omega,?_⟩,hAR⟩
  ·have e2:0≤j∧j≤(cap:Int):=⟨by omega,by omega⟩;simp [Instr.sliceAt,aY hT,Instr.slice,Instr.sliceBounds,Instr.sliceBound,asIntOf,e2,sizeOf,typeInfo,hti,Addr.add];omega
  ·refine O.set k hk (D:=fun _=>False) ⟨Cx.le.refl c,rfl,fun _ _ _=>⟨rfl,fun _=>oD⟩⟩ (fun b (h:False)=>h.elim) (fun b hb=>?_) (fun b hb=> .inl hb);exact O.on k hk b hb
  ·have:=jC R.size (show j.toNat≤cap by omega);omega
theorem Pt.cs {g:Nat} {v:Value} {p:Option Nat} (h:Pt g c v p):(v= .pointer none∧p.isNone=true)∨∃b,v= .pointer (some ⟨b,0,none⟩)∧p.isNone=false:=by
 cases p with
 | none=>exact .inl ⟨h,rfl⟩
 | some p=>obtain ⟨b,h,_⟩:=h; exact .inr ⟨b,h,rfl⟩
theorem RE.cs {S T:TypeId} {v:Value} {e:Er} (h:RE S T c v e):(v= .nilIface∧e.isNil=true)∨(∃a,v= .iface S (.pointer (some a))∧e.isNil=false)∨∃b,v= .iface T (.pointer (some ⟨b,0,none⟩))∧e.isNil=false:=by
 cases e with
 | nil=>exact .inl ⟨h,rfl⟩
 | sent g=>obtain ⟨b,h,_⟩:=h; exact .inr (.inl ⟨b,h,rfl⟩)
 | fault i e=>obtain ⟨b,u,h,_⟩:=h; exact .inr (.inr ⟨b,h,rfl⟩)
theorem RE.cs3 {S T:TypeId} {v:Value} {e:Er} (h:RE S T c v e):v= .nilIface∨∃t a,v= .iface t (.pointer a):=by
 rcases h.cs with ⟨h,_⟩ | ⟨b,h,_⟩ | ⟨b,h,_⟩
 ·exact .inl h
 ·exact .inr ⟨_,_,h⟩
 ·exact .inr ⟨_,_,h⟩
def dY (G G':Gm):Prop:=∀g k,G g k≠ []→G' g k=G g k
theorem dY.refl (G:Gm):dY G G:=fun _ _ _=>rfl
theorem dY.trans {a b c:Gm} (h:dY a b) (k:dY b c):dY a c:=fun g i hi=>(k g i (by rw [h g i hi]; exact hi)).trans (h g i hi)
theorem dY.get {G G':Gm} {g k:Nat} {e:En} {l:List En} (h:dY G G') (hE:G g k=e :: l):G' g k=e :: l:=(h g k (by rw [hE]; exact LX _ _)).trans hE
theorem dY.nil {G G':Gm} {g k:Nat} (h:dY G G') (hE:G' g k= []):G g k= []:=by
 by_cases hn:G g k= []
 ·exact hn
 ·rw [h g k hn] at hE; exact hE
theorem Kp.adds {G G':Gm} (O:Own c G' F) (h:dY G G'):Kp G [] c:=fun i e hi=>by
 cases i with
 | inl i=>simp [at_] at hi
 | inr i=>
  obtain ⟨g,k,r⟩:=i;simp only [at_] at hi;have hne:G g k≠ []:=fun e=>by rw [e] at hi; simp at hi
  rw [←h g k hne] at hi;exact O.gon rfl r hi
theorem Own.stGB {T:TypeId} {e:En} {b j:Nat} {us nw:List Value} {v:Value} {g k:Nat} {E:List En} (r:Nat) (O:Own c (jd G g k E) F) (hx:execOp ρ o=(do Instr.storeAt T (.pointer (some ⟨b,j,none⟩)) v; pure Next.skip:Sem Next)) (hr:E[r]? = some e) (hb:Go.Lt.blk e.v=some b) (hlim:e.lim=0)
  (hv:v.cells.toList=us) (hs:(P.info? T).map (·.size)=some us.length) (h1:mc us) (hl:Nat.ble (j+us.length) e.vs.length=true) (hn:e.vs.take j++us++e.vs.drop (j+us.length)=nw):
  ∃c',(execOp ρ o).run P c.w= .ok .skip c'.w∧c.le c'∧Own c' (jd G g k (E.set r ⟨e.v,e.T,nw,0⟩)) F:=by
 obtain ⟨c',h1,h2,h3⟩:=Own.stG (P:=P) r O hx (cK _ _ _ _) hr hb hlim hv hs h1 hl hn;rw [xQ] at h3;exact ⟨c',h1,h2,h3⟩
def EQ (n:Nat) (ks:List Nat):Bool:=ks.all (fun i=>Nat.blt i n) && decide ks.Nodup
theorem Own.selD (n:Nat) (ks:List Nat) (O:Own c G F) (hks:EQ n ks=true) (hn:Nat.ble n F.length=true):Own c G (ks.map (fun i=>F.getD i uZ)++F.drop n):=by
 simp only [EQ,an,mo,ai] at hks;have hn:=bh hn;refine Own.sel (L:=F.take n) ks (by rw [iU]; exact O) hks.2 ?_;rw [fR];refine dm fun i hi=>?_;have h1:i < n:=by have:=hks.1 i hi; simpa [Nat.blt_eq] using this
 simp only [Function.comp,aK,af h1,aw];rw [ah (by omega)];rfl
def dvg (n:Int):Option Unit:=if n=0 then none else some ()
theorem F8 {n:Int} {u:Unit} (h:dvg n=some u):n≠0:=by
 intro e;simp [dvg,e] at h
theorem Hp {k:IntKind} {a b:Int} {u:Unit} (h:dvg b=some u) (hx:execOp ρ o=(do pure (Next.value (←Op.intDiv .quo k a b)):Sem Next)) (w:World):(execOp ρ o).run P w= .ok (.value (.int k (k.wrap (a.tdiv b)))) w:=by
 rw [hx];exact rv (by simp [Op.intDiv,F8 h])
end
section
variable {P:Program} {c:Cx} {n:Fr} {e:Nat→Value} {fn:Func} {R:Ending→World→Prop}
theorem uV {t b:Nat} {T U:TypeId} {vs:List Value} (hr:fn.results= #[.cell t T]) (hv:ev n e (.tmp t)= .pointer (some ⟨b,0,none⟩))
  (hT:(P.underlying T).map (fun d=>match d with | .struct _ | .array _ _=>true | _=>false)=some true) (hs:(P.info? T).map (·.size)=some vs.length) (h:c.w.heap[b]? = some (.cells vs.toArray U (0,0)))
  (hR:R (.returned (.agg vs.toArray)) c.w):nK P fn n R .ret e c.w:=by
 have hl:=oJ (P:=P) (w:=c.w) (b:=b) (o:=0) (l:=vs) hT hs (fun j u hu=>by simp [World.cell?,h,hu]);refine ⟨.agg vs.toArray,?_,hR⟩;have ht:=gt n e t;rw [hv,ck] at ht;simp [results,hr,ht,asAddr,hl]
theorem kK {t u b:Nat} {T U:TypeId} {vs:List Value} {v:Value} (hr:fn.results= #[.cell t T,.tmp u]) (hv:ev n e (.tmp t)= .pointer (some ⟨b,0,none⟩)) (hu:ev n e (.tmp u)=v)
  (hT:(P.underlying T).map (fun d=>match d with | .struct _ | .array _ _=>true | _=>false)=some true) (hs:(P.info? T).map (·.size)=some vs.length) (h:c.w.heap[b]? = some (.cells vs.toArray U (0,0)))
  (hR:R (.returned (.tuple #[.agg vs.toArray,v])) c.w):nK P fn n R .ret e c.w:=by
 have hl:=oJ (P:=P) (w:=c.w) (b:=b) (o:=0) (l:=vs) hT hs (fun j u hu=>by simp [World.cell?,h,hu]);refine ⟨.tuple #[.agg vs.toArray,v],?_,hR⟩;have ht:=gt n e t;have hu':=gt n e u;rw [hv,ck] at ht;rw [hu,ck] at hu';simp [results,hr,ht,hu',asAddr,hl,Result.andThen]
theorem Ll {w:World} {t u s:Nat} {v v' v'':Value} (hr:fn.results= #[.tmp t,.tmp u,.tmp s]) (hv:ev n e (.tmp t)=v) (hu:ev n e (.tmp u)=v') (hs:ev n e (.tmp s)=v'')
  (h:R (.returned (.tuple #[v,v',v''])) w):nK P fn n R .ret e w:=by
 refine ⟨.tuple #[v,v',v''],?_,h⟩;have h1:=gt n e t;have h2:=gt n e u;have h3:=gt n e s;rw [hv,ck] at h1;rw [hu,ck] at h2;rw [hs,ck] at h3;simp [results,hr,h1,h2,h3]
theorem BF {s t u b:Nat} {T U:TypeId} {vs:List Value} {v v':Value} (hr:fn.results= #[.tmp s,.cell t T,.tmp u]) (hs':ev n e (.tmp s)=v') (hv:ev n e (.tmp t)= .pointer (some ⟨b,0,none⟩)) (hu:ev n e (.tmp u)=v)
  (hT:(P.underlying T).map (fun d=>match d with | .struct _ | .array _ _=>true | _=>false)=some true) (hs:(P.info? T).map (·.size)=some vs.length) (h:c.w.heap[b]? = some (.cells vs.toArray U (0,0)))
  (hR:R (.returned (.tuple #[v',.agg vs.toArray,v])) c.w):nK P fn n R .ret e c.w:=by
 have hl:=oJ (P:=P) (w:=c.w) (b:=b) (o:=0) (l:=vs) hT hs (fun j u hu=>by simp [World.cell?,h,hu]);refine ⟨.tuple #[v',.agg vs.toArray,v],?_,hR⟩;have ht:=gt n e t;have hu':=gt n e u;have hs'':=gt n e s;rw [hv,ck] at ht;rw [hu,ck] at hu';rw [hs',ck] at hs'';simp [results,hr,ht,hu',hs'',asAddr,hl,Result.andThen]
end
inductive EqP (P:Program) (xs ys:Array Value):List Field→Bool→Prop
 | nil:EqP P xs ys [] true
 | int {f:Field} {fs:List Field} {k:IntKind} {a b:Int} {r:Bool} (hn:decide (f.name= "_")=false) (hT:P.underlying f.type=some (.int k)) (hx:xs[f.offset]? = some (.int k a)) (hy:ys[f.offset]? = some (.int k b)) (h:EqP P xs ys fs r):EqP P xs ys (f :: fs) ((a==b) && r)
 | bool {f:Field} {fs:List Field} {a b:Bool} {r:Bool} (hn:decide (f.name= "_")=false) (hT:P.underlying f.type=some .bool) (hx:xs[f.offset]? = some (.bool a)) (hy:ys[f.offset]? = some (.bool b)) (h:EqP P xs ys fs r):EqP P xs ys (f :: fs) ((a==b) && r)
theorem pk {P:Program} {T:TypeId} {xs:Array Value} {o:Nat} {v:Value} (w:World) (hT:(P.underlying T).map (fun d=>match d with | .struct _ | .array _ _=>true | _=>false)=some false) (h:xs[o]? = some v):(part T xs o).run P w= .ok v w:=by
 obtain ⟨d,hd,hx⟩:=Option.map_eq_some_iff.1 hT;have hi:(isAgg T).run P w= .ok false w:=by
  have:=aY (P:=P) (w:=w) hd;simp only [isAgg,gA,this,nL]
  cases d <;> simp_all
 simp [part,hi,h,Result.andThen]
theorem EqP.run {P:Program} {xs ys:Array Value} {fs:List Field} {r:Bool} (h:EqP P xs ys fs r) (d:Nat) (w:World):(Op.eqFields (d+1) xs ys fs).run P w= .ok r w:=by
 induction h with
 | nil=>simp [Op.eqFields]
 | @int f fs k a b r hn hT hx hy _ ih=>
  have h1:=pk w (T:=f.type) (by rw [hT]; rfl) hx;have h2:=pk w (T:=f.type) (by rw [hT]; rfl) hy;have h3:=run_equalIn_int w d f.type k k a b hT;simp only [Op.eqFields,af (Lr hn),gA,h1,h2,h3,nL];by_cases hab:a=b <;> simp [hab,ih]
 | @bool f fs a b r hn hT hx hy _ ih=>
  have h1:=pk w (T:=f.type) (by rw [hT]; rfl) hx;have h2:=pk w (T:=f.type) (by rw [hT]; rfl) hy;have h3:=run_equalIn_bool' w d f.type a b hT;simp only [Op.eqFields,af (Lr hn),gA,h1,h2,h3,nL];by_cases hab:a=b <;> simp [hab,ih]
section
variable {P:Program} {ρ:Operand→Value} {o:Oper} {T U:TypeId} {xs ys:Array Value} {fs:Array Field} {r:Bool}
theorem EW (ht:P.underlying T=some (.struct fs)) (hp:P.stoodInHeld T=false) (hm:P.eqGuardType P.depth T=false) (h:EqP P xs ys fs.toList r)
  (hx:execOp ρ o=(do pure (Next.value (←(do eqGuard .eql T (.const .nilIface) (.const .nilIface) (.agg xs) (.agg ys); binOp .eql T (.agg xs) (.agg ys)))):Sem Next)) (w:World):(execOp ρ o).run P w= .ok (.value (.bool r)) w:=by
 have hf:P.fieldsOf T=fs:=by simp [Program.fieldsOf,ht]
 rw [hx];refine rv ?_;simp only [gA,run_eqGuard_agg w .eql T (.const .nilIface) (.const .nilIface) xs ys hm,nL,run_eql_struct,run_equalIn_agg w 9999 T xs ys (by rw [hf]; exact ht) hp];rw [hf,h.run];rfl
end
end Go.Lt
namespace Go.Lt
abbrev T16:=Int×Int×Int×Int×Int×Int×Int×Int×Int×Int×Int×Int×Int×Int×Int×Int
def a16 (t:T16):List Int:=[t.1,t.2.1,t.2.2.1,t.2.2.2.1,t.2.2.2.2.1,t.2.2.2.2.2.1,t.2.2.2.2.2.2.1,t.2.2.2.2.2.2.2.1,t.2.2.2.2.2.2.2.2.1,t.2.2.2.2.2.2.2.2.2.1,t.2.2.2.2.2.2.2.2.2.2.1,t.2.2.2.2.2.2.2.2.2.2.2.1,t.2.2.2.2.2.2.2.2.2.2.2.2.1,t.2.2.2.2.2.2.2.2.2.2.2.2.2.1,t.2.2.2.2.2.2.2.2.2.2.2.2.2.2.1,t.2.2.2.2.2.2.2.2.2.2.2.2.2.2.2]
def l16 (l:List Int):T16:=(l.getD 0 0,l.getD 1 0,l.getD 2 0,l.getD 3 0,l.getD 4 0,l.getD 5 0,l.getD 6 0,l.getD 7 0,l.getD 8 0,l.getD 9 0,l.getD 10 0,l.getD 11 0,l.getD 12 0,l.getD 13 0,l.getD 14 0,l.getD 15 0)
theorem oh (t:T16):(a16 t).length=16:=rfl
theorem IB {l:List Int} (h:l.length=16):a16 (l16 l)=l:=by
 match l,h with
 | [_,_,_,_,_,_,_,_,_,_,_,_,_,_,_,_],_=>rfl
def Ce (t:T16) (i x:Int):T16:=l16 ((a16 t).set i.toNat x)
theorem Bj (t:T16) (i x:Int):a16 (Ce t i x)=(a16 t).set i.toNat x:=IB (by rw [cf]; rfl)
theorem CB {α:Type} (pre l post:List α) {m:Nat} (x:α) (h:m < l.length):(pre++l++post).take (pre.length+m * 1)++ [x]++(pre++l++post).drop (pre.length+m * 1+1)=pre++l.set m x++post:=by
 rw [Dc,aD pre l post,Cl,List.drop_append,aJ (by omega),J4 (l:=pre) (by omega),bq];rw [show pre.length+m - pre.length=m by omega,show pre.length+m+1 - pre.length=m+1 by omega];rw [eu (by omega),kH (by omega)];rw [List.set_eq_take_append_cons_drop,af h];simp only [aD,bD,bq]
theorem Kn {k:IntKind} {t y:T16} {i x z:Int} (h:idx (a16 t) i=some z) (hy:some (Ce t i x)=some y) (pre post:List Value):
  (pre++(a16 t).map (Value.int k)++post).take (pre.length+i.toNat * 1)++ [.int k x]++(pre++(a16 t).map (Value.int k)++post).drop (pre.length+i.toNat * 1+1)=pre++(a16 y).map (Value.int k)++post:=by
 have hl:=la h;rw [oh] at hl;cases hy;rw [CB _ _ _ _ (by rw [aQ,oh]; omega),Bj,List.map_set]
theorem K3 {i z:Int} {t:T16} (h:idx (a16 t) i=some z) {p n:Nat} (hn:p+16≤n):Nat.ble (p+i.toNat * 1+1) n=true:=by
 have hl:=la h;rw [oh] at hl;exact lj (by omega)
section
variable {P:Program} {c c':Cx} {G:Gm} {F:List En} {ρ:Operand→Value} {o:Oper}
theorem Own.back {g k:Nat} {E E':List En} (O:Own c (jd G g k E') F) (hE:G g k=E) (h:E'=E):Own c G F:=by
 subst h;have e:jd G g k E'=G:=by
  funext a b
  simp only [jd];split
  ·rename_i hh
   obtain ⟨rfl,rfl⟩:=hh;exact hE.symm
  ·rfl
 rwa [e] at O
theorem Own.appSrc {α:Type} {R:Rp α} {E t ty:TypeId} {v:Value} {vs:List Value} {xs ys zs:List α} {z:Value} {by_:Nat} {m:Bool} {ua:Option Addr} {ucap:Nat} {nw:List Value} (k:Nat) (O:Own c G F) (hk:F[k]? = some (es m R v E vs xs)) (h:OA R c v vs xs)
  (n1:nw.length=ys.length * R.size) (n2:ys≠ []→∃ub uo,ua=some ⟨ub,uo,none⟩∧∀j w,nw[j]? = some w→c.w.cell? ⟨ub,uo+j,none⟩=some w) (n3:∀w∈nw,w.oneCell'=true) (n4:∀i x,ys[i]? = some x→R.cells c ((nw.drop (i * R.size)).take R.size) x) (happ:Go.Lt.app xs ys=some zs)
  (hT:P.underlying t=some (.slice E)) (hi:(P.info? E).map (fun i=>(i.zero,i.size,i.bytes))=some (some z,R.size,by_)) (hz:z.cells.size=R.size) (hby:Nat.ble by_ 128=true)
  (hx:execOp ρ o=(do pure (Next.value (←Builtin.append_ #[t,t] ty #[v,.slice ua ys.length ucap])):Sem Next)):
  ∃v' c',(execOp ρ o).run P c.w= .ok (.value v') c'.w∧c.le c'∧∃vs',Own c' G (F.set k (es m R v' E vs' zs))∧OA R c' v' vs' zs:=by
 obtain ⟨v',c',h1,h2,h3⟩:=xe (P:=P) (t:=t) (ty:=ty) (ucap:=ucap) k O hk h n1 n2 n3 n4 happ hT hi hz hby;exact ⟨v',c',rx hx h1,h2,h3⟩
theorem rX {T E:TypeId} {n sz b j:Nat} {k:IntKind} {i:Int} (hT:P.underlying T=some (.array n E)) (hE:(P.info? E).map (·.size)=some sz) (h0:0≤i) (h1:i < (n:Int)) (w:World):
  (Instr.indexAt T (.pointer (some ⟨b,j,none⟩)) (.int k i)).run P w= .ok (.pointer (some ⟨b,j+i.toNat * sz,none⟩)) w:=by
 obtain ⟨ti,hti,hsz⟩:=Option.map_eq_some_iff.1 hE;simp [Instr.indexAt,asIntOf,Instr.sureAddr,aY hT,h0,h1,sizeOf,typeInfo,hti,hsz,dp]
theorem EY {T E:TypeId} {n b j:Nat} {k:IntKind} {i:Int} (hT:P.underlying T=some (.array n E)) (hE:((P.info? E).map (·.size)).isSome=true) (h0:0≤i) (h1:i≤(n:Int)) (w:World):
  (Instr.sliceAt T (.pointer (some ⟨b,j,none⟩)) none (some (.int k i)) none).run P w= .ok (.slice (some ⟨b,j,none⟩) i.toNat n) w:=by
 cases hti:P.info? E with
 | none=>rw [hti] at hE; cases hE
 | some ti=>
  have e2:0≤i∧i≤(n:Int):=⟨h0,h1⟩;simp [Instr.sliceAt,Instr.sureAddr,aY hT,Instr.sliceBounds,Instr.sliceBound,asIntOf,e2,sizeOf,typeInfo,hti,dp]
theorem I0 {k:IntKind} {t:T16} {i:Int} {xs:List Int} (h:slc (a16 t) 0 i=some xs) (pre post:List Value) (m:Nat) (u:Value) (hu:(xs.map (Value.int k))[m]? = some u):(pre++(a16 t).map (Value.int k)++post)[pre.length+m]? = some u:=by
 obtain ⟨h1,h2,h3,rfl⟩:=qg h;rw [oh] at h3;rw [dx] at hu;simp only [Int.toNat_zero,iT,aK] at hu;split at hu
 ·rename_i hm
  have hm16:m < 16:=by omega
  rw [aD,aV (by omega),show pre.length+m - pre.length=m by omega,aG (by rw [aQ,oh]; exact hm16),dx];exact hu
 ·cases hu
theorem EL {t:T16} {i:Int} {xs:List Int} (h:slc (a16 t) 0 i=some xs):xs.length=i.toNat:=by
 have:=Hi h;omega
theorem rB.map {α:Type} {R:Rp α} {c:Cx} (f:α→List Value) (h:∀x,R.cells c (f x) x):∀l:List α,rB R c (l.map f) l
 | []=>trivial
 | x :: l=>⟨h x,rB.map f h l⟩
def dM (k:IntKind) (a b:Int):Int:=k.wrap ((BitVec.ofInt k.bits a &&& BitVec.ofInt k.bits b).toNat:Int)
def gi (k:IntKind) (a b:Int):Int:=k.wrap ((BitVec.ofInt k.bits a ||| BitVec.ofInt k.bits b).toNat:Int)
def shn (n:Int):Option Nat:=if n < 0 then none else some n.toNat
theorem zU {n:Int} {m:Nat} (h:shn n=some m):¬n < 0∧n.toNat=m:=by
 unfold shn at h;split at h
 ·cases h
 ·rename_i hn; exact ⟨hn,by simpa using h⟩
theorem Ho {k k':IntKind} {a b:Int} {m:Nat} (h:shn b=some m) (hx:execOp ρ o=(do pure (Next.value (←Op.shift .shl k a k' b)):Sem Next)) (w:World):(execOp ρ o).run P w= .ok (.value (.int k (k.wrap (a * 2 ^ (min m k.bits))))) w:=by
 obtain ⟨h1,h2⟩:=zU h;rw [hx];exact rv (by simp [Op.shift,h1,h2])
theorem Hn {k k':IntKind} {a b:Int} {m:Nat} (h:shn b=some m) (hx:execOp ρ o=(do pure (Next.value (←Op.shift .shr k a k' b)):Sem Next)) (w:World):(execOp ρ o).run P w= .ok (.value (.int k (a.fdiv (2 ^ (min m k.bits))))) w:=by
 obtain ⟨h1,h2⟩:=zU h;rw [hx];exact rv (by simp [Op.shift,h1,h2])
end
end Go.Lt
namespace Go.Lt
section
variable {P:Program} {c c':Cx} {G:Gm} {F:List En} {ρ:Operand→Value} {o:Oper}
theorem Own.frzB {b:Nat} {T:TypeId} {vs:List Value} (k:Nat) (O:Own c G F) (hk:F[k]? = some ⟨.pointer (some ⟨b,0,none⟩),T,vs,0⟩):
  ∃c',c'.w=c.w∧c.le c'∧Own c' G (F.set k ⟨.pointer (some ⟨b,0,none⟩),T,vs,vs.length⟩)∧∀j u,vs[j]? = some u→Im c' b (0+j) u:=by
 have hon:=O.on k hk;obtain ⟨hh,hA⟩:=hon.ce (b:=b) rfl
 let c':Cx:=⟨c.w,fun b' o=>c.A b' o∧¬(b'=b∧o < vs.length),c.t⟩
 have hle:c.le c':=⟨rfl,rfl,ao _,fun _ _ _ h=>⟨rfl,fun h2=>h h2.1⟩,fun _ _ _=>rfl,fun _ _ _=>rfl,fun _ _ _ h=>h⟩;have hb:c.but (fun b'=>b'=b) c':=⟨hle,rfl,fun b' hb' hd=>⟨rfl,fun o=>⟨fun h=>h.1,fun h=>⟨h,fun h2=>hd h2.1⟩⟩⟩⟩;refine ⟨c',rfl,hle,O.set k hk hb (fun b' h=>by rw [h]; rfl) (fun b' hb'=>?_) (fun b' h=> .inl h),fun j u hu=>⟨hon.lt rfl,fun hA'=>?_,?_⟩⟩
 ·simp only [bk,az] at hb';subst hb';refine ⟨hh,fun o=>?_⟩;show (c.A b o∧¬(b=b∧o < vs.length))↔vs.length≤o;rw [hA o];simp
 ·have:=(List.getElem?_eq_some_iff.1 hu).1;exact hA'.2 ⟨rfl,by omega⟩
 ·show c.w.cell? _=_;rw [fg _ _ _ _ _ _ hh,bj,ep,hu]
def nb (s:ByteArray) (i:Int):Option Int:=if 0≤i then (s[i.toNat]?).map (fun b=>(b.toNat:Int)) else none
theorem iy {T:TypeId} {s:ByteArray} {k:IntKind} {i x:Int} (hT:P.underlying T=some .string) (h:nb s i=some x) (w:World):(Instr.index T (.string s) (.int k i)).run P w= .ok (.int .u8 x) w:=by
 unfold nb at h;split at h
 ·rename_i h0
  obtain ⟨b,hb,rfl⟩:=Option.map_eq_some_iff.1 h;simp [Instr.index,asIntOf,aY hT,h0,hb]
 ·cases h
end
section
variable {P:Program} {c:Cx} {n:Fr} {e:Nat→Value} {fn:Func} {R:Ending→World→Prop}
end
section
variable {D:List Nat} {K:Cx→Prop} {P:Program} {l:List Oper} {n:Fr} {Q:Exit→(Nat→Value)→World→Prop} {fuel:Nat} {li:List Bool} {e:Nat→Value} {c:Cx} {o:Oper}
theorem Go1.late (i:Nat) (v:Value) (hi:l.toArray[i]? = some o) (hsl:eR n l=true) (hw:ig l.toArray n e o=true) (hr:(execOp (ev n e) o).run P c.w= .ok (.value v) c.w)
  (hk:D.contains i=true) (h:AC D K P l n Q fuel (li.set i true) (upO e o.dst v) c):Go1 D K P l n Q fuel li e c i:=Go1.val hi hsl hw hr (Cx.le.refl c) (.inl hk) h
end
end Go.Lt
namespace Go.Lt
theorem pt {c c':Cx} (k:c.le c':=by repeat (first | assumption | exact Cx.le.refl _ | refine Cx.le.trans ?_ (by assumption))):c.le c':=k
section
variable {c c':Cx} {α:Type} {R:Rp α}
theorem Sl.m {v:Value} {xs:List α} (h:Sl R c v xs) (k:c.le c':=by repeat (first | assumption | refine Cx.le.trans ?_ (by assumption))):Sl R c' v xs:=h.mono k
theorem OA.m {v:Value} {vs:List Value} {xs:List α} (h:OA R c v vs xs) (k:c.le c':=by repeat (first | assumption | refine Cx.le.trans ?_ (by assumption))):OA R c' v vs xs:=h.mono k
theorem Pt.m {g:Nat} {v:Value} {p:Option Nat} (h:Pt g c v p) (k:c.le c':=by repeat (first | assumption | refine Cx.le.trans ?_ (by assumption))):Pt g c' v p:=h.mono k
theorem RE.m {S T:TypeId} {v:Value} {e:Er} (h:RE S T c v e) (k:c.le c':=by repeat (first | assumption | refine Cx.le.trans ?_ (by assumption))):RE S T c' v e:=h.mono k
theorem mm {b o:Nat} {L:List Value} (h:∀j u,L[j]? = some u→Im c b (o+j) u) (k:c.le c':=by repeat (first | assumption | refine Cx.le.trans ?_ (by assumption))):∀j u,L[j]? = some u→Im c' b (o+j) u:=fun j u hu=>(h j u hu).mono k
theorem tm {g k b:Nat} (h:c.t g k=some b) (l:c.le c':=by repeat (first | assumption | refine Cx.le.trans ?_ (by assumption))):c'.t g k=some b:=l.t _ _ _ h
end
theorem AF {e:Nat→Value}:∀{l:List (Nat×Value)},l.map (fun x=>e x.1)=l.map (fun x=>x.2)→holds e l
 | [],_=>trivial
 | (t,v) :: l,h=>by
  simp only [dL,Ew] at h;exact ⟨h.1,AF h.2⟩
theorem us {e:Nat→Value} {l:List (Nat×Value)} (h:l.map (fun x=>e x.1)=l.map (fun x=>x.2):=by kernel_rfl):e=ups e l:=zK (AF h)
abbrev Jn (c0:Cx) (q:Cx→List (Nat×Value)→Prop) (e:Nat→Value) (w:World):Prop:=∃(c:Cx) (g:Nat→Value) (l:List (Nat×Value)),w=c.w∧c0.le c∧e=ups g l∧q c l
theorem jn {c0:Cx} {q:Cx→List (Nat×Value)→Prop} {e:Nat→Value} {l:List (Nat×Value)} (c:Cx) (h:q c l) (k:c0.le c:=by repeat (first | assumption | exact Cx.le.refl _ | refine Cx.le.trans ?_ (by assumption))) (u:l.map (fun x=>e x.1)=l.map (fun x=>x.2):=by kernel_rfl):Jn c0 q e c.w:=⟨c,e,l,rfl,k,us u,h⟩
theorem qq {c0:Cx} {X:Cx→Value→Prop} {v:Value} (c:Cx) (h:X c v) (k:c0.le c:=by repeat (first | assumption | exact Cx.le.refl _ | refine Cx.le.trans ?_ (by assumption))):aO c0 X (.returned v) c.w:=⟨v,c,rfl,rfl,k,h⟩
theorem bn {α β:Type} {x:Option α} {f:α→Option β} {r:β} {C:Prop} (H:x.bind f=some r) (k:∀a,x=some a→f a=some r→C):C:=by
 obtain ⟨a,h1,h2⟩:=bs H;exact k a h1 h2
theorem si {α:Type} {a b:α} (h:some a=some b):a=b:=aH h
theorem bo (b:Bool):b=true∨b=false:=Bool.eq_false_or_eq_true b
theorem Own.sD {c:Cx} {G:Gm} {F:List En} (O:Own c G F) (n:Nat) (ks:List Nat) (h1:EQ n ks=true:=by kernel_rfl) (h2:Nat.ble n F.length=true:=by kernel_rfl):Own c G (ks.map (fun i=>F.getD i uZ)++F.drop n):=O.selD n ks h1 h2
section
variable {P:Program} {c c':Cx} {G:Gm} {F:List En} {α:Type} {R:Rp α} {ρ:Operand→Value} {o:Oper} {fn:Func}
variable {n:Fr} {ops:Array Oper} {Q:Exit→(Nat→Value)→World→Prop} {rest:List Oper} {e:Nat→Value} {D:List Nat} {K:Cx→Prop} {l:List Oper} {fuel:Nat} {li:List Bool} {a b:Code} {w:World}
def val:Result Next→Value
 | .ok (.value v) _=>v
 | _=>undef
theorem vx {s:Sem Value} {v:Value} (h0:s.run P w= .ok v w) (h:WL P ops n Q rest (upO e o.dst v) w) (hg:o.guard=none:=by exact rfl) (hx:execOp (ev n e) o=(do pure (Next.value (←s)):Sem Next):=by kernel_rfl):WL P ops n Q (o :: rest) e w:=WL.val0 hg (rx hx h0) h
theorem vr (v:Value) (hr:(execOp (ev n e) o).run P w= .ok (.value v) w) (h:WL P ops n Q rest (upO e o.dst v) w) (hg:o.guard=none:=by exact rfl):WL P ops n Q (o :: rest) e w:=WL.val0 hg hr h
theorem cl {f:FuncId} {args:Array Value} {X:Cx→Value→Prop} (hc:Calls P f args c.w (aO c X)) (h:∀v c',c.le c'→X c' v→WL P ops n Q rest (upO e o.dst v) c'.w) (hg:o.guard=none:=by exact rfl) (hr:(execOp (ev n e) o).run P c.w= .ok (.enter f args) c.w:=by kernel_rfl):WL P ops n Q (o :: rest) e c.w:=WL.callP hg hr hc h
theorem me {X:Value→Cx→Prop} (hr:∃v c',(execOp (ev n e) o).run P c.w= .ok (.value v) c'.w∧c.le c'∧X v c') (h:∀v c',c.le c'→X v c'→WL P ops n Q rest (upO e o.dst v) c'.w) (hg:o.guard=none:=by exact rfl):WL P ops n Q (o :: rest) e c.w:=WL.mem hg hr h
theorem md {X:Cx→Prop} (hr:∃c',(execOp (ev n e) o).run P c.w= .ok .skip c'.w∧c.le c'∧X c') (h:∀c',c.le c'→X c'→WL P ops n Q rest (upO e o.dst undef) c'.w) (hg:o.guard=none:=by exact rfl):WL P ops n Q (o :: rest) e c.w:=WL.memD hg hr h
theorem cn {α:Type} {t:Bool} {x y:Option α} {r:α} {cd:Operand} (H:(if t=true then x else y)=some r) (h1:t=true→x=some r→W P n a Q e w) (h2:t=false→y=some r→W P n b Q e w) (hc:ev n e cd= .bool t:=by kernel_rfl):W P n (.cond cd a b) Q e w:=
 W.cond hc (fun h=>h1 h (it h H)) (fun h=>h2 h (ie h H))
theorem lp {σ τ:Type} {step:σ→Option (σ ⊕ τ)} {fuel:Nat} {s:σ} {t:τ} (H:cV fuel step s=some t) (F:σ→(Nat→Value)→World→Prop) (Out:τ→Exit→(Nat→Value)→World→Prop)
  (hb:∀s x e w,step s=some x→F s e w→W P n a (lpQ F Out x) e w) (h0:F s e w) (hQ:∀x e w,Out t x e w→Q x e w):W P n (.loop a) Q e w:=W.loop F Out hb H h0 hQ
theorem en {P:Program} {f:FuncId} {fn:Func} {code:Code} {n:Nat} {l:List Value} {w:World} {R:Ending→World→Prop} (hf:P.funcs[f]? = some fn) (hb:fn.body=some code) (hn:fn.ntmps=n) (h:W P ⟨n,[],none⟩ code (nK P fn ⟨n,[],none⟩ R) (ar l) w) (hl:Nat.ble l.length n=true:=by rfl):Calls P f l.toArray w R:=enter hf hb hn hl h
theorem tx (i:Nat) {s:Sem Value} {v:Value} (h0:∀c',c.le c'→s.run P c'.w= .ok v c'.w) (h:AC D K P l n Q fuel (li.set i true) (upO e o.dst v) c) (hi:l.toArray[i]? = some o:=by exact rfl) (ht:tk l n li i=true:=by kernel_rfl) (hw:ig l.toArray n e o=true:=by kernel_rfl)
  (hx:execOp (ev n e) o=(do pure (Next.value (←s)):Sem Next):=by kernel_rfl):AC D K P l n Q (fuel+1) li e c:=AC.take i v hi ht hw (fun c' k=>rx hx (h0 c' k)) h
theorem tkx (i:Nat) {s:Sem Value} {v:Value} (p:K c) (h0:∀c',c.le c'→K c'→s.run P c'.w= .ok v c'.w) (h:AC D K P l n Q fuel (li.set i true) (upO e o.dst v) c) (hi:l.toArray[i]? = some o:=by exact rfl) (ht:tk l n li i=true:=by kernel_rfl) (hB:okB l.toArray li i D=true:=by kernel_rfl)
  (hw:ig l.toArray n e o=true:=by kernel_rfl) (hx:execOp (ev n e) o=(do pure (Next.value (←s)):Sem Next):=by kernel_rfl):AC D K P l n Q (fuel+1) li e c:=AC.takeK i v p hi ht hB hw (fun c' k q=>rx hx (h0 c' k q)) h
theorem tp (i:Nat) (h:AC D K P l n Q fuel (li.set i true) (upO e o.dst undef) c) (hi:l.toArray[i]? = some o:=by exact rfl) (ht:tk l n li i=true:=by kernel_rfl) (hw:ig l.toArray n e o=false:=by kernel_rfl):AC D K P l n Q (fuel+1) li e c:=AC.pass i hi ht hw h
theorem dn (h:Q .normal e c.w) (hr:Region.ready .any l.toArray li.toArray= []:=by kernel_rfl):AC D K P l n Q fuel li e c:=AC.done hr h
theorem o1 (i:Nat) (h:Go1 D K P l n Q fuel li e c i) (hr:Region.ready .any l.toArray li.toArray= [i]:=by kernel_rfl):AC D K P l n Q (fuel+1) li e c:=AC.one i hr h
theorem mn2 (i j:Nat) (h1:Go1 D K P l n Q fuel li e c i) (h2:Go1 D K P l n Q fuel li e c j) (hr:Region.ready .any l.toArray li.toArray= [i,j]:=by kernel_rfl):AC D K P l n Q (fuel+1) li e c:=AC.many [i,j] (by simp) hr ⟨h1,h2,trivial⟩
theorem gm (i:Nat) {X:Value→Cx→Prop} (hr:∃v c',(execOp (ev n e) o).run P c.w= .ok (.value v) c'.w∧c.le c'∧X v c') (h:∀v c',c.le c'→X v c'→(D.contains i=true∨K c')∧AC D K P l n Q fuel (li.set i true) (upO e o.dst v) c')
  (hi:l.toArray[i]? = some o:=by exact rfl) (hsl:eR n l=true:=by kernel_rfl) (hw:ig l.toArray n e o=true:=by kernel_rfl):Go1 D K P l n Q fuel li e c i:=Go1.mem i hi hsl hw hr h
theorem gD (i:Nat) {X:Cx→Prop} (hr:∃c',(execOp (ev n e) o).run P c.w= .ok .skip c'.w∧c.le c'∧X c') (h:∀c',c.le c'→X c'→(D.contains i=true∨K c')∧AC D K P l n Q fuel (li.set i true) (upO e o.dst undef) c')
  (hi:l.toArray[i]? = some o:=by exact rfl) (hsl:eR n l=true:=by kernel_rfl) (hw:ig l.toArray n e o=true:=by kernel_rfl):Go1 D K P l n Q fuel li e c i:=Go1.memD i hi hsl hw hr h
theorem gc (i:Nat) {f:FuncId} {args:Array Value} {X:Cx→Value→Prop} (hc:Calls P f args c.w (aO c X)) (h:∀v c',c.le c'→X c' v→(D.contains i=true∨K c')∧AC D K P l n Q fuel (li.set i true) (upO e o.dst v) c')
  (hi:l.toArray[i]? = some o:=by exact rfl) (hsl:eR n l=true:=by kernel_rfl) (hw:ig l.toArray n e o=true:=by kernel_rfl) (hr:(execOp (ev n e) o).run P c.w= .ok (.enter f args) c.w:=by kernel_rfl):Go1 D K P l n Q fuel li e c i:=Go1.callP i hi hsl hw hr hc h
theorem gl (i:Nat) {s:Sem Value} {v:Value} (h0:s.run P c.w= .ok v c.w) (h:AC D K P l n Q fuel (li.set i true) (upO e o.dst v) c)
  (hi:l.toArray[i]? = some o:=by exact rfl) (hsl:eR n l=true:=by kernel_rfl) (hw:ig l.toArray n e o=true:=by kernel_rfl) (hx:execOp (ev n e) o=(do pure (Next.value (←s)):Sem Next):=by kernel_rfl) (hk:D.contains i=true:=by kernel_rfl):Go1 D K P l n Q fuel li e c i:=Go1.late i v hi hsl hw (rx hx h0) hk h
theorem rD (D:List Nat) (K:Cx→Prop) {id:Nat} (O:Own c G F) (h:∀c',c.le c'→Own c' G F→AC D K P l n Q l.length (List.replicate l.length false) e c') (hm:P.follows .mixedOrders=true:=by kernel_rfl):W P n (.region id l.toArray true) Q e c.w:=W.regionD D K O hm h
theorem l1 {T:TypeId} {b o:Nat} {v:Value} {d:TypeDesc} (hT:P.underlying T=some d) (h:Im c b o v) (hd:(match d with | .struct _ | .array _ _=>false | _=>true)=true:=by rfl):(Instr.loadAt T (.pointer (some ⟨b,o,none⟩))).run P c.w= .ok v c.w:=xW hT hd h
theorem lN (T:TypeId) {b o:Nat} {l:List Value} (h:∀j u,l[j]? = some u→Im c b (o+j) u) (hT:(P.underlying T).map (fun d=>match d with | .struct _ | .array _ _=>true | _=>false)=some true:=by kernel_rfl) (hs:(P.info? T).map (·.size)=some l.length:=by kernel_rfl):
  (Instr.loadAt T (.pointer (some ⟨b,o,none⟩))).run P c.w= .ok (.agg l.toArray) c.w:=Dp hT hs h
theorem le1 (j:Nat) {T:TypeId} {e:En} {b:Nat} {v:Value} {d:TypeDesc} (hT:P.underlying T=some d) (h:e.on c) (hd:(match d with | .struct _ | .array _ _=>false | _=>true)=true:=by rfl) (hb:blk e.v=some b:=by rfl) (hj:e.vs[j]? = some v:=by rfl):
  (Instr.loadAt T (.pointer (some ⟨b,j,none⟩))).run P c.w= .ok v c.w:=Aq hT hd h hb hj
theorem leN (T j:Nat) (l:List Value) {e:En} {b:Nat} (h:e.on c) (hT:(P.underlying T).map (fun d=>match d with | .struct _ | .array _ _=>true | _=>false)=some true:=by kernel_rfl) (hs:(P.info? T).map (·.size)=some l.length:=by kernel_rfl) (hb:blk e.v=some b:=by rfl) (hl:(e.vs.drop j).take l.length=l:=by rfl):
  (Instr.loadAt T (.pointer (some ⟨b,j,none⟩))).run P c.w= .ok (.agg l.toArray) c.w:=Jv hT hs h hb hl
theorem ix {v:Value} {xs:List α} {T E:TypeId} {i:Int} {x:α} (hT:P.underlying T=some (.slice E)) (h:Sl R c v xs) (hi:idx xs i=some x) (hE:(P.info? E).map (·.size)=some R.size:=by kernel_rfl):
  (Instr.indexAt T v (.int .i64 i)).run P w= .ok (.pointer (some ⟨sb v,so v+i.toNat * R.size,none⟩)) w:=Dq hT hE h hi w
theorem ixO {v:Value} {vs:List Value} {xs:List α} {T E:TypeId} {i:Int} {x:α} (hT:P.underlying T=some (.slice E)) (h:OA R c v vs xs) (hi:idx xs i=some x) (hE:(P.info? E).map (·.size)=some R.size:=by kernel_rfl):
  (Instr.indexAt T v (.int .i64 i)).run P w= .ok (.pointer (some ⟨sb v,i.toNat * R.size,none⟩)) w:=BC hT hE h hi w
theorem ln {v:Value} {xs:List α} {T E:TypeId} (ty:TypeId) (hT:P.underlying T=some (.slice E)) (h:Sl R c v xs):(Builtin.len_ #[T] ty #[v]).run P w= .ok (.int .i64 (xs.length:Int)) w:=Hq hT h w
theorem lnO {v:Value} {vs:List Value} {xs:List α} {T E:TypeId} (ty:TypeId) (hT:P.underlying T=some (.slice E)) (h:OA R c v vs xs):(Builtin.len_ #[T] ty #[v]).run P w= .ok (.int .i64 (xs.length:Int)) w:=EV hT h w
theorem bx (T:TypeId) (vs:List Value) (O:Own c G F) (hr:(execOp ρ o).run P c.w= .ok (.value (.pointer (some ⟨c.w.heap.size,0,none⟩))) (c.w.alloc (.cells vs.toArray T)):=by kernel_rfl):
  ∃v c',(execOp ρ o).run P c.w= .ok (.value v) c'.w∧c.le c'∧∃b,v= .pointer (some ⟨b,0,none⟩)∧Own c' G F∧∀j u,vs[j]? = some u→Im c' b (0+j) u:=Own.bx O hr
theorem al (T:TypeId) (vs:List Value) (O:Own c G F) (hr:(execOp ρ o).run P c.w= .ok (.value (.pointer (some ⟨c.w.heap.size,0,none⟩))) (c.w.alloc (.cells vs.toArray T)):=by kernel_rfl):
  ∃v c',(execOp ρ o).run P c.w= .ok (.value v) c'.w∧c.le c'∧∃b,v= .pointer (some ⟨b,0,none⟩)∧Own c' G (⟨.pointer (some ⟨b,0,none⟩),T,vs,0⟩ :: F):=Own.al O hr
theorem sA (T:TypeId) (us:List Value) {e:En} {b:Nat} (k:Nat) (O:Own c G F) (h1:mc us) (hx:execOp ρ o=(do Instr.storeAt T (.pointer (some ⟨b,0,none⟩)) (.agg us.toArray); pure Next.skip:Sem Next):=by kernel_rfl) (hk:F[k]? = some e:=by rfl) (hb:blk e.v=some b:=by rfl) (hlim:e.lim=0:=by rfl)
  (hs:(P.info? T).map (·.size)=some us.length:=by kernel_rfl) (hl:Nat.ble (0+us.length) e.vs.length=true:=by rfl) (hn:e.vs.take 0++us++e.vs.drop (0+us.length)=us:=by rfl):∃c',(execOp ρ o).run P c.w= .ok .skip c'.w∧c.le c'∧Own c' G (F.set k ⟨e.v,e.T,us,0⟩):=Own.st k O hx hk hb hlim rfl hs h1 hl hn
theorem sB (T j:Nat) (us nw:List Value) {e:En} {b:Nat} (k:Nat) (O:Own c G F) (h1:mc us) (hx:execOp ρ o=(do Instr.storeAt T (.pointer (some ⟨b,j,none⟩)) (.agg us.toArray); pure Next.skip:Sem Next):=by kernel_rfl) (hk:F[k]? = some e:=by rfl) (hb:blk e.v=some b:=by rfl) (hlim:e.lim=0:=by rfl)
  (hs:(P.info? T).map (·.size)=some us.length:=by kernel_rfl) (hl:Nat.ble (j+us.length) e.vs.length=true:=by rfl) (hn:e.vs.take j++us++e.vs.drop (j+us.length)=nw:=by rfl):∃c',(execOp ρ o).run P c.w= .ok .skip c'.w∧c.le c'∧Own c' G (F.set k ⟨e.v,e.T,nw,0⟩):=Own.st k O hx hk hb hlim rfl hs h1 hl hn
theorem Gp {v:Value} (h:v.oneCell'=true):v.cells.toList= [v]:=by
 cases v <;> first | rfl | (simp [Value.oneCell'] at h)
theorem sC (T j:Nat) (v:Value) (nw:List Value) {e:En} {b:Nat} (k:Nat) (O:Own c G F) (h1:mc [v]) (hx:execOp ρ o=(do Instr.storeAt T (.pointer (some ⟨b,j,none⟩)) v; pure Next.skip:Sem Next):=by kernel_rfl) (hk:F[k]? = some e:=by rfl) (hb:blk e.v=some b:=by rfl) (hlim:e.lim=0:=by rfl)
  (hs:(P.info? T).map (·.size)=some 1:=by kernel_rfl) (hl:Nat.ble (j+1) e.vs.length=true:=by rfl) (hn:e.vs.take j++ [v]++e.vs.drop (j+1)=nw:=by rfl):∃c',(execOp ρ o).run P c.w= .ok .skip c'.w∧c.le c'∧Own c' G (F.set k ⟨e.v,e.T,nw,0⟩):=Own.st k O hx hk hb hlim (Gp h1.1) hs h1 hl hn
theorem gB (T j:Nat) (us nw:List Value) {e:En} {b g k:Nat} {E:List En} (r:Nat) (O:Own c G F) (hE:G g k=E) (h1:mc us) (hx:execOp ρ o=(do Instr.storeAt T (.pointer (some ⟨b,j,none⟩)) (.agg us.toArray); pure Next.skip:Sem Next):=by kernel_rfl) (hr:E[r]? = some e:=by rfl) (hb:blk e.v=some b:=by rfl) (hlim:e.lim=0:=by rfl)
  (hs:(P.info? T).map (·.size)=some us.length:=by kernel_rfl) (hl:Nat.ble (j+us.length) e.vs.length=true:=by rfl) (hn:e.vs.take j++us++e.vs.drop (j+us.length)=nw:=by rfl):∃c',(execOp ρ o).run P c.w= .ok .skip c'.w∧c.le c'∧Own c' (jd G g k (E.set r ⟨e.v,e.T,nw,0⟩)) F:=Own.stG r O hx hE hr hb hlim rfl hs h1 hl hn
theorem gC (T j:Nat) (v:Value) (nw:List Value) {e:En} {b g k:Nat} {E:List En} (r:Nat) (O:Own c G F) (hE:G g k=E) (h1:mc [v]) (hx:execOp ρ o=(do Instr.storeAt T (.pointer (some ⟨b,j,none⟩)) v; pure Next.skip:Sem Next):=by kernel_rfl) (hr:E[r]? = some e:=by rfl) (hb:blk e.v=some b:=by rfl) (hlim:e.lim=0:=by rfl)
  (hs:(P.info? T).map (·.size)=some 1:=by kernel_rfl) (hl:Nat.ble (j+1) e.vs.length=true:=by rfl) (hn:e.vs.take j++ [v]++e.vs.drop (j+1)=nw:=by rfl):∃c',(execOp ρ o).run P c.w= .ok .skip c'.w∧c.le c'∧Own c' (jd G g k (E.set r ⟨e.v,e.T,nw,0⟩)) F:=Own.stG r O hx hE hr hb hlim (Gp h1.1) hs h1 hl hn
theorem sl (R:Rp α) (E:TypeId) (ls:List (List Value)) (xs:List α) (O:Own c G F) (hR:rB R c ls xs) (hp:0 < R.size:=by exact aI _) (hm:Nat.ble xs.length 4294967296=true:=by kernel_rfl)
  (hr:(execOp ρ o).run P c.w= .ok (.value (.slice (some ⟨c.w.heap.size,0,none⟩) xs.length xs.length)) (c.w.alloc (.cells ls.flatten.toArray E)):=by kernel_rfl):
  ∃v c',(execOp ρ o).run P c.w= .ok (.value v) c'.w∧c.le c'∧∃vs,Own c' G (es true R v E vs xs :: F)∧OA R c' v vs xs:=Own.sl true O hp rfl hR hm hr
theorem ap (R:Rp α) (z:Value) (by_ ty:Nat) {E t:TypeId} {v u:Value} {vs:List Value} {xs ys zs:List α} {m:Bool} (k:Nat) (O:Own c G F) (h:OA R c v vs xs) (hS:Sl R c u ys) (happ:app xs ys=some zs) (hT:P.underlying t=some (.slice E)) (hk:F[k]? = some (es m R v E vs xs):=by rfl)
  (hi:(P.info? E).map (fun i=>(i.zero,i.size,i.bytes))=some (some z,R.size,by_):=by kernel_rfl) (hz:z.cells.size=R.size:=by rfl) (hby:Nat.ble by_ 128=true:=by kernel_rfl) (hx:execOp ρ o=(do pure (Next.value (←Builtin.append_ #[t,t] ty #[v,u])):Sem Next):=by kernel_rfl):
  ∃v' c',(execOp ρ o).run P c.w= .ok (.value v') c'.w∧c.le c'∧∃vs',Own c' G (F.set k (es m R v' E vs' zs))∧OA R c' v' vs' zs:=Own.app k O hk h hS happ hT hi hz hby hx
variable {RR:Ending→World→Prop}
theorem r0 (h:RR (.returned (.tuple #[])) w) (hr:fn.results= #[]:=by rfl):nK P fn n RR .ret e w:=Ln hr h
theorem n0 (h:RR (.returned (.tuple #[])) w) (hr:fn.results= #[]:=by rfl):nK P fn n RR .normal e w:=Lu hr h
theorem r1 {t:Nat} {v:Value} (h:RR (.returned v) w) (hr:fn.results= #[.tmp t]:=by rfl) (hv:ev n e (.tmp t)=v:=by kernel_rfl):nK P fn n RR .ret e w:=Dx hr hv h
theorem r2 {t u:Nat} {v v':Value} (h:RR (.returned (.tuple #[v,v'])) w) (hr:fn.results= #[.tmp t,.tmp u]:=by rfl) (hv:ev n e (.tmp t)=v:=by kernel_rfl) (hu:ev n e (.tmp u)=v':=by kernel_rfl):nK P fn n RR .ret e w:=Lm hr hv hu h
theorem r3 {t u s:Nat} {v v' v'':Value} (h:RR (.returned (.tuple #[v,v',v''])) w) (hr:fn.results= #[.tmp t,.tmp u,.tmp s]:=by rfl) (hv:ev n e (.tmp t)=v:=by kernel_rfl) (hu:ev n e (.tmp u)=v':=by kernel_rfl) (hs:ev n e (.tmp s)=v'':=by kernel_rfl):nK P fn n RR .ret e w:=Ll hr hv hu hs h
end
abbrev I (x:Int):Value:= .int .i64 x
abbrev J (x:Int):Value:= .int .i32 x
abbrev B (x:Bool):Value:= .bool x
abbrev Q (b:Nat):Value:= .pointer (some ⟨b,0,none⟩)
abbrev Qo (b o:Nat):Value:= .pointer (some ⟨b,o,none⟩)
abbrev aE (a b c:Int):Value:= .agg #[I a,I b,I c]
abbrev III (a b:Int):Value:= .agg #[I a,I b]
abbrev LY (a b c:Int):Value:= .agg #[J a,J b,J c]
abbrev JII (a b:Int):Value:= .agg #[J a,J b]
abbrev Y:Value:= .slice none 0 0
abbrev Eb (b:Nat) (T:TypeId) (l:List Value):En:=⟨.pointer (some ⟨b,0,none⟩),T,l,0⟩
end Go.Lt
namespace Go.Lt
def uq (l:List Int):ByteArray:=⟨(l.map fun x=>UInt8.ofNat x.toNat).toArray⟩
def eqS (a b:ByteArray):Bool:=a.data.toList==b.data.toList
theorem iE {P:Program} {ρ:Operand→Value} {o:Oper} {a b:ByteArray} {w:World} (hr:(execOp ρ o).run P w= .ok (.value (.bool (a.toList==b.toList))) w):(execOp ρ o).run P w= .ok (.value (.bool (eqS a b))) w:=by
 rw [hr,pW,pW];rfl
theorem vp {P:Program} {ρ:Operand→Value} {o:Oper} {a b:ByteArray} {w:World} (hr:(execOp ρ o).run P w= .ok (.value (.bool (!(a.toList==b.toList)))) w):(execOp ρ o).run P w= .ok (.value (.bool (!eqS a b))) w:=by
 rw [hr,pW,pW];rfl
theorem wB:∀(l:List Int) (r:ByteArray),l.foldl (fun r n=>r.push (UInt8.ofNat n.toNat)) r=⟨r.data++(uq l).data⟩
 | [],r=>by simp [uq]
 | x :: l,r=>by
  rw [Eu,wB l];simp [uq,ByteArray.push]
theorem zZ {P:Program} {c:Cx} {src dst e:TypeId} {v:Value} {xs:List Int} (hs:P.underlying src=some (.slice e)) (he:P.underlying e=some (.int .u8)) (hd:P.underlying dst=some .string) (h:Sl (RI .u8) c v xs):
  (convert src dst v).run P c.w= .ok (.string (uq xs)) c.w:=by
 obtain ⟨a,cap,rfl,_,_,h4⟩:=h;rw [run_convert_bytes_string c.w src dst e a xs.length cap hs he hd]
 cases xs with
 | nil=>
  cases a with
  | none=>rfl
  | some ad=>
   have:=LL (P:=P) c.w ad 0 cap [] (by simp [loadCells,loadCellsFrom]);exact this
 | cons y t=>
  obtain ⟨b,off,l,rfl,_,_⟩:=h4 0 y rfl;have hl:=run_loadCells_list (P:=P) (w:=c.w) ⟨b,off,none⟩ ((y :: t).map (Value.int .u8)) (fun j v hj=>by
   rw [dx,Option.map_eq_some_iff] at hj;obtain ⟨x,hx,rfl⟩:=hj;obtain ⟨b',off',l',e,hl,hc⟩:=h4 j x hx;cases e;have:=(hc 0 _ (by rw [show l'= [.int .u8 x] from hl]; rfl)).cell;rw [show off+j * (RI .u8).size+0=off+j by show off+j * 1+0=off+j; omega] at this;rw [dp];exact this)
  rw [aQ] at hl;rw [LL c.w ⟨b,off,none⟩ (y :: t).length cap (y :: t) hl,wB,show ByteArray.empty.data= #[] from rfl,LK]
def bL (s:ByteArray):Int:=(s.size:Int)
def rW (a b:ByteArray):Option ByteArray:=if a.size+b.size≤far then some (a++b) else none
def na (s:ByteArray) (i j:Int):Option ByteArray:=if 0≤i∧i≤j∧j≤s.size then some (s.extract i.toNat j.toNat) else none
theorem yA {s r:ByteArray} {i j:Int} (h:na s i j=some r):(0≤i∧i≤j∧j≤s.size)∧s.extract i.toNat j.toNat=r:=by
 unfold na at h;split at h
 ·exact ⟨by assumption,by simpa using h⟩
 ·cases h
theorem dP {P:Program} {T ty:TypeId} {s:ByteArray} (hT:P.underlying T=some .string) (w:World):(Builtin.len_ #[T] ty #[.string s]).run P w= .ok (.int .i64 (bL s)) w:=run_len_string w T ty s hT
theorem lB {P:Program} {a b r:ByteArray} (h:rW a b=some r) (w:World):(Op.stringOp .add a b).run P w= .ok (.string r) w:=by
 unfold rW far at h;split at h
 ·cases h;exact run_string_add_sum w a b (by omega)
 ·cases h
theorem ql {P:Program} {T:TypeId} {s r:ByteArray} {k k':IntKind} {i j:Int} (hT:P.underlying T=some .string) (h:na s i j=some r) (w:World):(Instr.sliceAt T (.string s) (some (.int k i)) (some (.int k' j)) none).run P w= .ok (.string r) w:=by
 rw [yH _ _ _ _ _ _ hT];obtain ⟨⟨h0,h1,h2⟩,rfl⟩:=yA h;exact run_slice_string w T s k k' i j hT h0 h1 h2
theorem tP {P:Program} {T:TypeId} {s r:ByteArray} {k':IntKind} {j:Int} (hT:P.underlying T=some .string) (h:na s 0 j=some r) (w:World):(Instr.sliceAt T (.string s) none (some (.int k' j)) none).run P w= .ok (.string r) w:=by
 rw [yH _ _ _ _ _ _ hT];obtain ⟨⟨h0,h1,h2⟩,rfl⟩:=yA h;rw [run_slice_string_to_if w T s k' j hT,af ⟨h1,h2⟩];rfl
theorem xV {P:Program} {T:TypeId} {s r:ByteArray} {k:IntKind} {i:Int} (hT:P.underlying T=some .string) (h:na s i (bL s)=some r) (w:World):(Instr.sliceAt T (.string s) (some (.int k i)) none none).run P w= .ok (.string r) w:=by
 rw [yH _ _ _ _ _ _ hT];obtain ⟨⟨h0,h1,h2⟩,rfl⟩:=yA h;rw [run_slice_string_from_if w T s k i hT,af ⟨h0,h1⟩];rfl
abbrev T2:=Int×Int
def a2 (t:T2):List Int:=[t.1,t.2]
def Da (t:T2) (i x:Int):T2:=(((a2 t).set i.toNat x).getD 0 0,((a2 t).set i.toNat x).getD 1 0)
theorem Ci (t:T2):(a2 t).length=2:=rfl
theorem IA (t:T2) (i x:Int):a2 (Da t i x)=(a2 t).set i.toNat x:=by
 have h:((a2 t).set i.toNat x).length=2:=by rw [cf]; rfl
 show [((a2 t).set i.toNat x).getD 0 0,((a2 t).set i.toNat x).getD 1 0]=_
 match (a2 t).set i.toNat x,h with
 | [_,_],_=>rfl
theorem Lk {k:IntKind} {t y:T2} {i x z:Int} (h:idx (a2 t) i=some z) (hy:some (Da t i x)=some y) (pre post:List Value):
  (pre++(a2 t).map (Value.int k)++post).take (pre.length+i.toNat * 1)++ [.int k x]++(pre++(a2 t).map (Value.int k)++post).drop (pre.length+i.toNat * 1+1)=pre++(a2 y).map (Value.int k)++post:=by
 have hl:=la h;rw [Ci] at hl;cases hy;rw [CB _ _ _ _ (by rw [aQ,Ci]; omega),IA,List.map_set]
theorem Ly {i z:Int} {t:T2} (h:idx (a2 t) i=some z) {p n:Nat} (hn:p+2≤n):Nat.ble (p+i.toNat * 1+1) n=true:=by
 have hl:=la h;rw [Ci] at hl;exact lj (by omega)
theorem OA.nilcs {α:Type} {R:Rp α} {c:Cx} {v:Value} {vs:List Value} {xs:List α} (h:OA R c v vs xs) (nz:xs= []→v= .slice none 0 0):
  (v= .slice none 0 0∧xs.isEmpty=true)∨∃g l k,v= .slice (some g) l k∧xs.isEmpty=false:=by
 obtain ⟨_,h1 | ⟨g,cap,rfl,_⟩,_⟩:=h
 ·exact .inl ⟨h1.1,by rw [h1.2]; rfl⟩
 ·cases xs with
  | nil=>cases nz rfl
  | cons x t=>exact .inr ⟨_,_,_,rfl,rfl⟩
theorem W.regionE {P:Program} {n:Fr} {Q:Exit→(Nat→Value)→World→Prop} (D:List Nat) (K:Cx→Prop) {id:Nat} {l:List Oper} {e:Nat→Value} {c:Cx} (hm:P.follows .mixedOrders=true)
  (h:AC D K P l n Q l.length (List.replicate l.length false) e ⟨c.w.drew,c.A,c.t⟩):W P n (.region id l.toArray true) Q e c.w:=
 wpIn_region_any hm (by
  have:=rA.sound _ _ _ _ h;rw [show (List.replicate l.length false).toArray=Array.replicate l.toArray.size false by simp] at this;exact this)
theorem Own.below {c:Cx} {w':World} {G:Gm} {F:List En} (O:Own c G F) (h:RowKit.Below c.w.heap.size c.w w'):∃c':Cx,c'.w=w'∧c.le c'∧Own c' G F∧∀b o v,c.w.heap.size≤b→w'.cell? ⟨b,o,none⟩=some v→Im c' b o v:=by
 have hbut:c.but (fun _=>False) ⟨w',fun k o=>k < c.w.heap.size∧c.A k o,c.t⟩:=by
  refine ⟨⟨h.os,h.output,h.size,fun k o h1 h2=>⟨bZ (w:=c.w) (a:=⟨k,o,none⟩) (h.block k h1),fun q=>h2 q.2⟩,fun k h1 _=>h.block k h1,fun a h1 _=>by simp only [World.frozen?,h.block _ h1],fun _ _ _ q=>q⟩,rfl,fun k h1 _=>⟨h.block k h1,fun o=>⟨fun q=>q.2,fun q=>⟨h1,q⟩⟩⟩⟩
 refine ⟨_,rfl,hbut.le,O.keep hbut,fun b o v hb hv=>⟨?_,fun q=>by omega,hv⟩⟩;show b < w'.heap.size;rcases aR b w'.heap.size with q | q
 ·exact q
 ·simp only [World.cell?,kJ q] at hv;cases hv
theorem Own.alA {P:Program} {c:Cx} {G:Gm} {F:List En} {ρ:Operand→Value} {o:Oper} {k:IntKind} {T:TypeId} (n:Nat) (O:Own c G F) (hn:Nat.ble n 4294967296=true)
  (hr:(execOp ρ o).run P c.w= .ok (.value (.pointer (some ⟨c.w.heap.size,0,none⟩))) (c.w.alloc (.cells (List.replicate n (Value.int k 0)).toArray T))):
  ∃v c',(execOp ρ o).run P c.w= .ok (.value v) c'.w∧c.le c'∧∃b us,v= .pointer (some ⟨b,0,none⟩)∧Own c' G (es true (RI k) (.slice (some ⟨b,0,none⟩) n n) T us (List.replicate n 0) :: F)∧OA (RI k) c' (.slice (some ⟨b,0,none⟩) n n) us (List.replicate n 0):=by
 have hn:=bh hn;obtain ⟨c',h1,h2,h3,_,h4⟩:=Cx.new c (List.replicate n (Value.int k 0)) T 0;refine ⟨_,c',by rw [h1]; exact hr,h2.le,c.w.heap.size,List.replicate n (Value.int k 0),rfl,O.cons h2 (fun _=>id) (fun b hb=>?_) (fun b hb=>?_),aI _,.inr ⟨_,n,by rw [dO],by rw [dO]; exact ao _,by unfold maxLen; omega,by rw [dO]; show n * 1≤n; omega⟩,fun i x hi=>?_⟩
 ·simp only [es,Go.Lt.bk,az] at hb; subst hb; exact ⟨h3,h4⟩
 ·simp only [es,Go.Lt.bk,az] at hb; omega
 ·rw [tG] at hi;split at hi
  ·rename_i hlt
   cases hi;show ((List.replicate n (Value.int k 0)).drop (i * 1)).take 1= [Value.int k 0];rw [List.drop_replicate,Lh,show min 1 (n - i * 1)=1 by omega];rfl
  ·cases hi
def xo (n:Int) (xs:List Int) (i:Int):Option Int:=if i < n then idx xs i else none
theorem td {n:Int} {xs:List Int} {i x:Int} (h:xo n xs i=some x):idx xs i=some x∧i < n:=by
 unfold xo at h;split at h
 ·exact ⟨h,by assumption⟩
 ·cases h
theorem nx {P:Program} {T E:TypeId} {n b m l:Nat} {k:IntKind} {i:Int} (hT:P.underlying T=some (.array n E)) (hE:(P.info? E).map (·.size)=some 1) (h0:0≤i) (h1:i < (n:Int)) (w:World):
  (Instr.indexAt T (.pointer (some ⟨b,0,none⟩)) (.int k i)).run P w= .ok (.pointer (some ⟨sb (.slice (some ⟨b,0,none⟩) m l),i.toNat * 1,none⟩)) w:=by
 rw [rX hT hE h0 h1 w,ep];rfl
theorem EX {P:Program} {c:Cx} {T E:TypeId} {n b:Nat} {k q:IntKind} {i:Int} {xs zs:List Int} (hT:P.underlying T=some (.array n E)) (hE:(P.info? E).map (·.size)=some 1) (h:Sl (RI q) c (.slice (some ⟨b,0,none⟩) n n) xs) (hz:slc xs i xs.length=some zs):
  ∃v',(∀w,(Instr.sliceAt T (.pointer (some ⟨b,0,none⟩)) (some (.int k i)) none none).run P w= .ok v' w)∧Sl (RI q) c v' zs:=by
 obtain ⟨h1,h2,h3,rfl⟩:=qg hz;obtain ⟨ti,hti,hsz⟩:=Option.map_eq_some_iff.1 hE;have hh:=h;obtain ⟨a,cap,hv,h4,h5,h6⟩:=h;simp only [Value.slice.injEq] at hv;obtain ⟨rfl,hn,rfl⟩:=hv;rw [hn] at hh;have hcut:=Sl.cut (l:=i.toNat) (h:=xs.length) (m:=n) (cap:=n) (by rw [←hn] at hh⊢; exact hh) (by omega) (by omega) (by omega) (ao _);rw [show ((xs.length:Int) - i).toNat=xs.length - i.toNat by omega];refine ⟨_,fun w=>?_,hcut⟩;have e1:0≤i∧i≤(n:Int):=⟨h1,by omega⟩;simp [Instr.sliceAt,Instr.sureAddr,aY hT,Instr.sliceBounds,Instr.sliceBound,asIntOf,e1,sizeOf,typeInfo,hti,hsz,dp,hn,RI,h2];split <;> rfl
end Go.Lt
namespace Go.Proofs.YtceciacilfhmjaaGreatDoor
open Go Go.Lt
set_option linter.unusedVariables false
structure aj where
 Row:Int
 Col:Int
 Pending:Bool
def IC:Rp aj where
 size:=3
 cells:=fun _ l x=>l= [.int .i64 x.Row,.int .i64 x.Col,.bool x.Pending]
 len:=by
  intro c l x h
  obtain rfl:=h
  rfl
 one:=by
  intro c l x h v hv
  obtain rfl:=h
  simp only [cq,cC,ju] at hv
  rcases hv with rfl | rfl | rfl
  ·rfl
  ·rfl
  ·rfl
 mono:=by
  intro c c2 l x hc h
  obtain rfl:=h
  exact rfl
structure bv where
 held:Int
 needs:Int
 lo:Int
 hi:Int
 bits:Int
structure cD where
 some:Bool
 last:Int
 pict:Int
 conj:Int
 odd:Bool
structure aa where
 Kind:Int
 Text:List Int
def ax:Rp aa where
 size:=2
 cells:=fun c l x=>∃y1:Value,l= [.int .i64 x.Kind,y1]∧Sl (RI .i32) c y1 x.Text
 len:=by
  intro c l x h
  obtain ⟨_,rfl,h0⟩:=h
  rfl
 one:=by
  intro c l x h v hv
  obtain ⟨_,rfl,h0⟩:=h
  simp only [cq,cC,ju] at hv
  rcases hv with rfl | rfl
  ·rfl
  ·exact h0.one
 mono:=by
  intro c c2 l x hc h
  obtain ⟨_,rfl,h0⟩:=h
  exact ⟨_,rfl,h0.lw hc⟩
structure aq where
 Cells:List aa
 Wrap:Bool
def cU:Rp aq where
 size:=2
 cells:=fun c l x=>∃y1:Value,l= [y1,.bool x.Wrap]∧Sl ax c y1 x.Cells
 len:=by
  intro c l x h
  obtain ⟨_,rfl,h0⟩:=h
  rfl
 one:=by
  intro c l x h v hv
  obtain ⟨_,rfl,h0⟩:=h
  simp only [cq,cC,ju] at hv
  rcases hv with rfl | rfl
  ·exact h0.one
  ·rfl
 mono:=by
  intro c c2 l x hc h
  obtain ⟨_,rfl,h0⟩:=h
  exact ⟨_,rfl,h0.lw hc⟩
structure bU where
 Wide:Int
 High:Int
 Lines:List aq
 At:aj
 Auto:Bool
structure ba where
 Kind:Int
 A:Int
 B:Int
 Bytes:List Int
structure aP where
 Break:Int
 Pict:Bool
 Conj:Int
 East:Int
structure gF where
 from_:Int
 to_:Int
 n:Int
structure bC where
 text:Int×Int×Int×Int×Int×Int×Int×Int×Int×Int×Int×Int×Int×Int×Int×Int
 n:Int
structure br where
 some:Bool
 pict:Bool
 wide:Bool
structure nQ where
 Wide:Int
 Text:List Int
def rf:Rp (Int×Int) where
 size:=2
 cells:=fun _ l x=>l= [.int .i32 x.1,.int .i32 x.2]
 len:=by
  intro c l x h
  obtain rfl:=h
  rfl
 one:=by
  intro c l x h v hv
  obtain rfl:=h
  simp only [cq,cC,ju] at hv
  rcases hv with rfl | rfl
  ·rfl
  ·rfl
 mono:=fun _ h=>h
def gQ:Rp (Int×Int×Int) where
 size:=3
 cells:=fun _ l x=>l= [.int .i64 x.1,.int .i64 x.2.1,.int .i64 x.2.2]
 len:=by
  intro c l x h
  obtain rfl:=h
  rfl
 one:=by
  intro c l x h v hv
  obtain rfl:=h
  simp only [cq,cC,ju] at hv
  rcases hv with rfl | rfl | rfl
  ·rfl
  ·rfl
  ·rfl
 mono:=fun _ h=>h
structure bm where
 cells:List aa
 wrap:Bool
structure cj where
 rows:List (Option Nat)
structure bf where
 G:Option Nat
 At:aj
 Auto:Bool
structure aX where
 at_:aj
 wide:Int
 text:bC
 gauge:br
structure bw where
 pen:Option Nat
 dec:bv
 seg:cD
 open_:Option Nat
structure dK where
 Feeder:Option Nat
 pen:Option Nat
structure co where
 s:Option Nat
def dY (G G':Gm):Prop:=∀g k,G g k≠ []→G' g k=G g k
theorem dY.refl (G:Gm):dY G G:=fun _ _ _=>rfl
theorem dY.trans {a b c:Gm} (h:dY a b) (k:dY b c):dY a c:=fun g i hi=>(k g i (by rw [h g i hi]; exact hi)).trans (h g i hi)
theorem dY.get {G G':Gm} {g k:Nat} {e:En} {l:List En} (h:dY G G') (hE:G g k=e :: l):G' g k=e :: l:=(h g k (by rw [hE]; exact LX _ _)).trans hE
theorem dY.nil {G G':Gm} {g k:Nat} (h:dY G G') (hE:G' g k= []):G g k= []:=by
 by_cases hn:G g k= []
 ·exact hn
 ·rw [h g k hn] at hE; exact hE
structure Sto where
 row_Row:List bm
 grid_Grid:List cj
 place_Pen:List bf
 widen_Cluster:List aX
 feed_Feeder:List bw
 screen_Screen:List dK
 console_console:List co
def Sto.set_row_Row (s:Sto) (k:Nat) (x:bm):Option Sto:=if k < s.row_Row.length then some { s with row_Row:=s.row_Row.set k x} else none
def Sto.add_row_Row (s:Sto) (x:bm):Sto:={ s with row_Row:=s.row_Row++ [x]}
def jN (c:Cx) (t:Option Nat) (E:List En) (x:bm):Prop:=∃(b:Nat) (y1:Value) (u1:List Value),t=some b∧E= [⟨.pointer (some ⟨b,0,none⟩),137,[y1,.bool x.wrap],0⟩,es true ax y1 104 u1 x.cells]∧OA ax c y1 u1 x.cells
theorem jN.lw {c c':Cx} (k:c.lw c') (b:Nat) (E:List En) (x:bm):jN c (some b) E x→jN c' (some b) E x:=by
 rintro ⟨b,y1,u1,e1,e2,h0⟩;exact ⟨b,y1,u1,e1,e2,h0.lw k⟩
theorem jN.no {c:Cx} (E:List En) (x:bm):¬jN c none E x:=by
 rintro ⟨b,y1,u1,e1,_⟩;cases e1
def Sto.set_grid_Grid (s:Sto) (k:Nat) (x:cj):Option Sto:=if k < s.grid_Grid.length then some { s with grid_Grid:=s.grid_Grid.set k x} else none
def Sto.add_grid_Grid (s:Sto) (x:cj):Sto:={ s with grid_Grid:=s.grid_Grid++ [x]}
def gq (c:Cx) (t:Option Nat) (E:List En) (x:cj):Prop:=∃(b:Nat) (y1:Value) (u1:List Value),t=some b∧E= [⟨.pointer (some ⟨b,0,none⟩),94,[y1],0⟩,es true (RP 0) y1 95 u1 x.rows]∧OA (RP 0) c y1 u1 x.rows
theorem gq.lw {c c':Cx} (k:c.lw c') (b:Nat) (E:List En) (x:cj):gq c (some b) E x→gq c' (some b) E x:=by
 rintro ⟨b,y1,u1,e1,e2,h0⟩;exact ⟨b,y1,u1,e1,e2,h0.lw k⟩
theorem gq.no {c:Cx} (E:List En) (x:cj):¬gq c none E x:=by
 rintro ⟨b,y1,u1,e1,_⟩;cases e1
def Sto.set_place_Pen (s:Sto) (k:Nat) (x:bf):Option Sto:=if k < s.place_Pen.length then some { s with place_Pen:=s.place_Pen.set k x} else none
def Sto.add_place_Pen (s:Sto) (x:bf):Sto:={ s with place_Pen:=s.place_Pen++ [x]}
def gp (c:Cx) (t:Option Nat) (E:List En) (x:bf):Prop:=∃(b:Nat) (y1:Value),t=some b∧E= [⟨.pointer (some ⟨b,0,none⟩),57,[y1,.int .i64 x.At.Row,.int .i64 x.At.Col,.bool x.At.Pending,.bool x.Auto],0⟩]∧Pt 1 c y1 x.G
theorem gp.lw {c c':Cx} (k:c.lw c') (b:Nat) (E:List En) (x:bf):gp c (some b) E x→gp c' (some b) E x:=by
 rintro ⟨b,y1,e1,e2,h0⟩;exact ⟨b,y1,e1,e2,h0.lw k⟩
theorem gp.no {c:Cx} (E:List En) (x:bf):¬gp c none E x:=by
 rintro ⟨b,y1,e1,_⟩;cases e1
def Sto.set_widen_Cluster (s:Sto) (k:Nat) (x:aX):Option Sto:=if k < s.widen_Cluster.length then some { s with widen_Cluster:=s.widen_Cluster.set k x} else none
def Sto.add_widen_Cluster (s:Sto) (x:aX):Sto:={ s with widen_Cluster:=s.widen_Cluster++ [x]}
def dJ (c:Cx) (t:Option Nat) (E:List En) (x:aX):Prop:=∃(b:Nat),t=some b∧E= [⟨.pointer (some ⟨b,0,none⟩),286,[.int .i64 x.at_.Row,.int .i64 x.at_.Col,.bool x.at_.Pending,.int .i64 x.wide,.int .i32 x.text.text.1,.int .i32 x.text.text.2.1,.int .i32 x.text.text.2.2.1,.int .i32 x.text.text.2.2.2.1,.int .i32 x.text.text.2.2.2.2.1,.int .i32 x.text.text.2.2.2.2.2.1,.int .i32 x.text.text.2.2.2.2.2.2.1,.int .i32 x.text.text.2.2.2.2.2.2.2.1,.int .i32 x.text.text.2.2.2.2.2.2.2.2.1,.int .i32 x.text.text.2.2.2.2.2.2.2.2.2.1,.int .i32 x.text.text.2.2.2.2.2.2.2.2.2.2.1,.int .i32 x.text.text.2.2.2.2.2.2.2.2.2.2.2.1,.int .i32 x.text.text.2.2.2.2.2.2.2.2.2.2.2.2.1,.int .i32 x.text.text.2.2.2.2.2.2.2.2.2.2.2.2.2.1,.int .i32 x.text.text.2.2.2.2.2.2.2.2.2.2.2.2.2.2.1,.int .i32 x.text.text.2.2.2.2.2.2.2.2.2.2.2.2.2.2.2,.int .i64 x.text.n,.bool x.gauge.some,.bool x.gauge.pict,.bool x.gauge.wide],0⟩]
theorem dJ.lw {c c':Cx} (k:c.lw c') (b:Nat) (E:List En) (x:aX):dJ c (some b) E x→dJ c' (some b) E x:=by
 rintro ⟨b,e1,e2⟩;exact ⟨b,e1,e2⟩
theorem dJ.no {c:Cx} (E:List En) (x:aX):¬dJ c none E x:=by
 rintro ⟨b,e1,_⟩;cases e1
def Sto.set_feed_Feeder (s:Sto) (k:Nat) (x:bw):Option Sto:=if k < s.feed_Feeder.length then some { s with feed_Feeder:=s.feed_Feeder.set k x} else none
def Sto.add_feed_Feeder (s:Sto) (x:bw):Sto:={ s with feed_Feeder:=s.feed_Feeder++ [x]}
def ez (c:Cx) (t:Option Nat) (E:List En) (x:bw):Prop:=∃(b:Nat) (y1:Value) (y2:Value),t=some b∧E= [⟨.pointer (some ⟨b,0,none⟩),64,[y1,.int .i64 x.dec.held,.int .i64 x.dec.needs,.int .u8 x.dec.lo,.int .u8 x.dec.hi,.int .i64 x.dec.bits,.bool x.seg.some,.int .i64 x.seg.last,.int .i64 x.seg.pict,.int .i64 x.seg.conj,.bool x.seg.odd,y2],0⟩]∧Pt 2 c y1 x.pen∧Pt 3 c y2 x.open_
theorem ez.lw {c c':Cx} (k:c.lw c') (b:Nat) (E:List En) (x:bw):ez c (some b) E x→ez c' (some b) E x:=by
 rintro ⟨b,y1,y2,e1,e2,h0,h1⟩;exact ⟨b,y1,y2,e1,e2,h0.lw k,h1.lw k⟩
theorem ez.no {c:Cx} (E:List En) (x:bw):¬ez c none E x:=by
 rintro ⟨b,y1,y2,e1,_⟩;cases e1
def Sto.add_screen_Screen (s:Sto) (x:dK):Sto:={ s with screen_Screen:=s.screen_Screen++ [x]}
def eo (c:Cx) (t:Option Nat) (E:List En) (x:dK):Prop:=∃(b:Nat) (y1:Value) (y2:Value),t=some b∧E= [⟨.pointer (some ⟨b,0,none⟩),47,[y1,y2],0⟩]∧Pt 4 c y1 x.Feeder∧Pt 2 c y2 x.pen
theorem eo.lw {c c':Cx} (k:c.lw c') (b:Nat) (E:List En) (x:dK):eo c (some b) E x→eo c' (some b) E x:=by
 rintro ⟨b,y1,y2,e1,e2,h0,h1⟩;exact ⟨b,y1,y2,e1,e2,h0.lw k,h1.lw k⟩
theorem eo.no {c:Cx} (E:List En) (x:dK):¬eo c none E x:=by
 rintro ⟨b,y1,y2,e1,_⟩;cases e1
def Sto.set_console_console (s:Sto) (k:Nat) (x:co):Option Sto:=if k < s.console_console.length then some { s with console_console:=s.console_console.set k x} else none
def Sto.add_console_console (s:Sto) (x:co):Sto:={ s with console_console:=s.console_console++ [x]}
def dh (c:Cx) (t:Option Nat) (E:List En) (x:co):Prop:=∃(b:Nat) (y1:Value),t=some b∧E= [⟨.pointer (some ⟨b,0,none⟩),29,[y1],0⟩]∧Pt 5 c y1 x.s
theorem dh.lw {c c':Cx} (k:c.lw c') (b:Nat) (E:List En) (x:co):dh c (some b) E x→dh c' (some b) E x:=by
 rintro ⟨b,y1,e1,e2,h0⟩;exact ⟨b,y1,e1,e2,h0.lw k⟩
theorem dh.no {c:Cx} (E:List En) (x:co):¬dh c none E x:=by
 rintro ⟨b,y1,e1,_⟩;cases e1
structure Rel (c:Cx) (s:Sto) (G:Gm):Prop where
 row_Row:Rl jN 0 c G s.row_Row
 grid_Grid:Rl gq 1 c G s.grid_Grid
 place_Pen:Rl gp 2 c G s.place_Pen
 widen_Cluster:Rl dJ 3 c G s.widen_Cluster
 feed_Feeder:Rl ez 4 c G s.feed_Feeder
 screen_Screen:Rl eo 5 c G s.screen_Screen
 console_console:Rl dh 6 c G s.console_console
theorem Rel.lw {c c':Cx} {s:Sto} {G:Gm} (h:Rel c s G) (k:c.lw c'):Rel c' s G:=
 ⟨h.row_Row.mono (jN.lw k) jN.no k,h.grid_Grid.mono (gq.lw k) gq.no k,h.place_Pen.mono (gp.lw k) gp.no k,h.widen_Cluster.mono (dJ.lw k) dJ.no k,h.feed_Feeder.mono (ez.lw k) ez.no k,h.screen_Screen.mono (eo.lw k) eo.no k,h.console_console.mono (dh.lw k) dh.no k⟩
theorem Rel.mono {c c':Cx} {s:Sto} {G:Gm} (h:Rel c s G) (k:c.le c'):Rel c' s G:=h.lw k.lw
theorem Rel.m {c c':Cx} {s:Sto} {G:Gm} (h:Rel c s G) (k:c.le c':=by repeat (first | assumption | refine Cx.le.trans ?_ (by assumption))):Rel c' s G:=h.mono k
theorem Rel.open_row_Row {c:Cx} {s:Sto} {G:Gm} {k b:Nat} {x:bm} (R:Rel c s G) (hx:s.row_Row[k]? = some x) (ht:c.t 0 k=some b):∃(y1:Value) (u1:List Value),G 0 k= [⟨.pointer (some ⟨b,0,none⟩),137,[y1,.bool x.wrap],0⟩,es true ax y1 104 u1 x.cells]∧OA ax c y1 u1 x.cells:=by
 obtain ⟨b',y1,u1,e1,e2,h0⟩:=R.row_Row.ob k x hx;rw [ht] at e1;cases e1;exact ⟨y1,u1,e2,h0⟩
theorem Rel.put_row_Row {c:Cx} {s s':Sto} {G:Gm} {F:List En} {k:Nat} {E':List En} {x':bm} (O:Own c (jd G 0 k E') F) (R:Rel c s G) (h:s.set_row_Row k x'=some s') (hY:jN c (c.t 0 k) E' x'):
  ∃G',Own c G' F∧Rel c s' G'∧G' 0 k=E'∧∀G0,dY G0 G→G0 0 k= []→dY G0 G':=by
 unfold Sto.set_row_Row at h;split at h
 ·rename_i hk
  cases h;refine ⟨_,O,⟨R.row_Row.set hk hY,R.grid_Grid.other (by decide),R.place_Pen.other (by decide),R.widen_Cluster.other (by decide),R.feed_Feeder.other (by decide),R.screen_Screen.other (by decide),R.console_console.other (by decide)⟩,cK _ _ _ _,fun G0 h1 h2 g' k' h3=>?_⟩;rw [eA (by rintro ⟨rfl,rfl⟩; exact h3 h2)];exact h1 g' k' h3
 ·cases h
theorem Rel.new_row_Row {c:Cx} {s:Sto} {G:Gm} {F E:List En} {x:bm} {b:Nat} (O:Own c G (E++F)) (R:Rel c s G) (hY:∀c',c.le c'→jN c' (some b) E x):
  ∃c' G',(c'.w=c.w∧c'.A=c.A)∧c.le c'∧c'.t 0 s.row_Row.length=some b∧Own c' G' F∧Rel c' (s.add_row_Row x) G'∧G' 0 s.row_Row.length=E∧G 0 s.row_Row.length= []∧dY G G':=by
 have hE:=R.row_Row.no _ (ao _);have hne:E≠ []:=by
  obtain ⟨_,_,_,_,rfl,_⟩:=hY c (Cx.le.refl c);simp
 obtain ⟨c',hw,hle,ht,O'⟩:=Own.newObj (b:=b) O hE hne;have R':=R.mono hle;refine ⟨c',_,hw,hle,ht,O',⟨R'.row_Row.new (by rw [ht]; exact hY c' hle),R'.grid_Grid.other (by decide),R'.place_Pen.other (by decide),R'.widen_Cluster.other (by decide),R'.feed_Feeder.other (by decide),R'.screen_Screen.other (by decide),R'.console_console.other (by decide)⟩,cK _ _ _ _,hE,fun g' k' h3=>?_⟩;exact eA (by rintro ⟨rfl,rfl⟩; exact h3 hE)
theorem Rel.open_grid_Grid {c:Cx} {s:Sto} {G:Gm} {k b:Nat} {x:cj} (R:Rel c s G) (hx:s.grid_Grid[k]? = some x) (ht:c.t 1 k=some b):∃(y1:Value) (u1:List Value),G 1 k= [⟨.pointer (some ⟨b,0,none⟩),94,[y1],0⟩,es true (RP 0) y1 95 u1 x.rows]∧OA (RP 0) c y1 u1 x.rows:=by
 obtain ⟨b',y1,u1,e1,e2,h0⟩:=R.grid_Grid.ob k x hx;rw [ht] at e1;cases e1;exact ⟨y1,u1,e2,h0⟩
theorem Rel.put_grid_Grid {c:Cx} {s s':Sto} {G:Gm} {F:List En} {k:Nat} {E':List En} {x':cj} (O:Own c (jd G 1 k E') F) (R:Rel c s G) (h:s.set_grid_Grid k x'=some s') (hY:gq c (c.t 1 k) E' x'):
  ∃G',Own c G' F∧Rel c s' G'∧G' 1 k=E'∧∀G0,dY G0 G→G0 1 k= []→dY G0 G':=by
 unfold Sto.set_grid_Grid at h;split at h
 ·rename_i hk
  cases h;refine ⟨_,O,⟨R.row_Row.other (by decide),R.grid_Grid.set hk hY,R.place_Pen.other (by decide),R.widen_Cluster.other (by decide),R.feed_Feeder.other (by decide),R.screen_Screen.other (by decide),R.console_console.other (by decide)⟩,cK _ _ _ _,fun G0 h1 h2 g' k' h3=>?_⟩;rw [eA (by rintro ⟨rfl,rfl⟩; exact h3 h2)];exact h1 g' k' h3
 ·cases h
theorem Rel.new_grid_Grid {c:Cx} {s:Sto} {G:Gm} {F E:List En} {x:cj} {b:Nat} (O:Own c G (E++F)) (R:Rel c s G) (hY:∀c',c.le c'→gq c' (some b) E x):
  ∃c' G',(c'.w=c.w∧c'.A=c.A)∧c.le c'∧c'.t 1 s.grid_Grid.length=some b∧Own c' G' F∧Rel c' (s.add_grid_Grid x) G'∧G' 1 s.grid_Grid.length=E∧G 1 s.grid_Grid.length= []∧dY G G':=by
 have hE:=R.grid_Grid.no _ (ao _);have hne:E≠ []:=by
  obtain ⟨_,_,_,_,rfl,_⟩:=hY c (Cx.le.refl c);simp
 obtain ⟨c',hw,hle,ht,O'⟩:=Own.newObj (b:=b) O hE hne;have R':=R.mono hle;refine ⟨c',_,hw,hle,ht,O',⟨R'.row_Row.other (by decide),R'.grid_Grid.new (by rw [ht]; exact hY c' hle),R'.place_Pen.other (by decide),R'.widen_Cluster.other (by decide),R'.feed_Feeder.other (by decide),R'.screen_Screen.other (by decide),R'.console_console.other (by decide)⟩,cK _ _ _ _,hE,fun g' k' h3=>?_⟩;exact eA (by rintro ⟨rfl,rfl⟩; exact h3 hE)
theorem Rel.open_place_Pen {c:Cx} {s:Sto} {G:Gm} {k b:Nat} {x:bf} (R:Rel c s G) (hx:s.place_Pen[k]? = some x) (ht:c.t 2 k=some b):∃(y1:Value),G 2 k= [⟨.pointer (some ⟨b,0,none⟩),57,[y1,.int .i64 x.At.Row,.int .i64 x.At.Col,.bool x.At.Pending,.bool x.Auto],0⟩]∧Pt 1 c y1 x.G:=by
 obtain ⟨b',y1,e1,e2,h0⟩:=R.place_Pen.ob k x hx;rw [ht] at e1;cases e1;exact ⟨y1,e2,h0⟩
theorem Rel.put_place_Pen {c:Cx} {s s':Sto} {G:Gm} {F:List En} {k:Nat} {E':List En} {x':bf} (O:Own c (jd G 2 k E') F) (R:Rel c s G) (h:s.set_place_Pen k x'=some s') (hY:gp c (c.t 2 k) E' x'):
  ∃G',Own c G' F∧Rel c s' G'∧G' 2 k=E'∧∀G0,dY G0 G→G0 2 k= []→dY G0 G':=by
 unfold Sto.set_place_Pen at h;split at h
 ·rename_i hk
  cases h;refine ⟨_,O,⟨R.row_Row.other (by decide),R.grid_Grid.other (by decide),R.place_Pen.set hk hY,R.widen_Cluster.other (by decide),R.feed_Feeder.other (by decide),R.screen_Screen.other (by decide),R.console_console.other (by decide)⟩,cK _ _ _ _,fun G0 h1 h2 g' k' h3=>?_⟩;rw [eA (by rintro ⟨rfl,rfl⟩; exact h3 h2)];exact h1 g' k' h3
 ·cases h
theorem Rel.new_place_Pen {c:Cx} {s:Sto} {G:Gm} {F E:List En} {x:bf} {b:Nat} (O:Own c G (E++F)) (R:Rel c s G) (hY:∀c',c.le c'→gp c' (some b) E x):
  ∃c' G',(c'.w=c.w∧c'.A=c.A)∧c.le c'∧c'.t 2 s.place_Pen.length=some b∧Own c' G' F∧Rel c' (s.add_place_Pen x) G'∧G' 2 s.place_Pen.length=E∧G 2 s.place_Pen.length= []∧dY G G':=by
 have hE:=R.place_Pen.no _ (ao _);have hne:E≠ []:=by
  obtain ⟨_,_,_,rfl,_⟩:=hY c (Cx.le.refl c);simp
 obtain ⟨c',hw,hle,ht,O'⟩:=Own.newObj (b:=b) O hE hne;have R':=R.mono hle;refine ⟨c',_,hw,hle,ht,O',⟨R'.row_Row.other (by decide),R'.grid_Grid.other (by decide),R'.place_Pen.new (by rw [ht]; exact hY c' hle),R'.widen_Cluster.other (by decide),R'.feed_Feeder.other (by decide),R'.screen_Screen.other (by decide),R'.console_console.other (by decide)⟩,cK _ _ _ _,hE,fun g' k' h3=>?_⟩;exact eA (by rintro ⟨rfl,rfl⟩; exact h3 hE)
theorem Rel.open_widen_Cluster {c:Cx} {s:Sto} {G:Gm} {k b:Nat} {x:aX} (R:Rel c s G) (hx:s.widen_Cluster[k]? = some x) (ht:c.t 3 k=some b):G 3 k= [⟨.pointer (some ⟨b,0,none⟩),286,[.int .i64 x.at_.Row,.int .i64 x.at_.Col,.bool x.at_.Pending,.int .i64 x.wide,.int .i32 x.text.text.1,.int .i32 x.text.text.2.1,.int .i32 x.text.text.2.2.1,.int .i32 x.text.text.2.2.2.1,.int .i32 x.text.text.2.2.2.2.1,.int .i32 x.text.text.2.2.2.2.2.1,.int .i32 x.text.text.2.2.2.2.2.2.1,.int .i32 x.text.text.2.2.2.2.2.2.2.1,.int .i32 x.text.text.2.2.2.2.2.2.2.2.1,.int .i32 x.text.text.2.2.2.2.2.2.2.2.2.1,.int .i32 x.text.text.2.2.2.2.2.2.2.2.2.2.1,.int .i32 x.text.text.2.2.2.2.2.2.2.2.2.2.2.1,.int .i32 x.text.text.2.2.2.2.2.2.2.2.2.2.2.2.1,.int .i32 x.text.text.2.2.2.2.2.2.2.2.2.2.2.2.2.1,.int .i32 x.text.text.2.2.2.2.2.2.2.2.2.2.2.2.2.2.1,.int .i32 x.text.text.2.2.2.2.2.2.2.2.2.2.2.2.2.2.2,.int .i64 x.text.n,.bool x.gauge.some,.bool x.gauge.pict,.bool x.gauge.wide],0⟩]:=by
 obtain ⟨b',e1,e2⟩:=R.widen_Cluster.ob k x hx;rw [ht] at e1;cases e1;exact e2
theorem Rel.put_widen_Cluster {c:Cx} {s s':Sto} {G:Gm} {F:List En} {k:Nat} {E':List En} {x':aX} (O:Own c (jd G 3 k E') F) (R:Rel c s G) (h:s.set_widen_Cluster k x'=some s') (hY:dJ c (c.t 3 k) E' x'):
  ∃G',Own c G' F∧Rel c s' G'∧G' 3 k=E'∧∀G0,dY G0 G→G0 3 k= []→dY G0 G':=by
 unfold Sto.set_widen_Cluster at h;split at h
 ·rename_i hk
  cases h;refine ⟨_,O,⟨R.row_Row.other (by decide),R.grid_Grid.other (by decide),R.place_Pen.other (by decide),R.widen_Cluster.set hk hY,R.feed_Feeder.other (by decide),R.screen_Screen.other (by decide),R.console_console.other (by decide)⟩,cK _ _ _ _,fun G0 h1 h2 g' k' h3=>?_⟩;rw [eA (by rintro ⟨rfl,rfl⟩; exact h3 h2)];exact h1 g' k' h3
 ·cases h
theorem Rel.new_widen_Cluster {c:Cx} {s:Sto} {G:Gm} {F E:List En} {x:aX} {b:Nat} (O:Own c G (E++F)) (R:Rel c s G) (hY:∀c',c.le c'→dJ c' (some b) E x):
  ∃c' G',(c'.w=c.w∧c'.A=c.A)∧c.le c'∧c'.t 3 s.widen_Cluster.length=some b∧Own c' G' F∧Rel c' (s.add_widen_Cluster x) G'∧G' 3 s.widen_Cluster.length=E∧G 3 s.widen_Cluster.length= []∧dY G G':=by
 have hE:=R.widen_Cluster.no _ (ao _);have hne:E≠ []:=by
  obtain ⟨_,_,rfl,_⟩:=hY c (Cx.le.refl c);simp
 obtain ⟨c',hw,hle,ht,O'⟩:=Own.newObj (b:=b) O hE hne;have R':=R.mono hle;refine ⟨c',_,hw,hle,ht,O',⟨R'.row_Row.other (by decide),R'.grid_Grid.other (by decide),R'.place_Pen.other (by decide),R'.widen_Cluster.new (by rw [ht]; exact hY c' hle),R'.feed_Feeder.other (by decide),R'.screen_Screen.other (by decide),R'.console_console.other (by decide)⟩,cK _ _ _ _,hE,fun g' k' h3=>?_⟩;exact eA (by rintro ⟨rfl,rfl⟩; exact h3 hE)
theorem Rel.open_feed_Feeder {c:Cx} {s:Sto} {G:Gm} {k b:Nat} {x:bw} (R:Rel c s G) (hx:s.feed_Feeder[k]? = some x) (ht:c.t 4 k=some b):∃(y1:Value) (y2:Value),G 4 k= [⟨.pointer (some ⟨b,0,none⟩),64,[y1,.int .i64 x.dec.held,.int .i64 x.dec.needs,.int .u8 x.dec.lo,.int .u8 x.dec.hi,.int .i64 x.dec.bits,.bool x.seg.some,.int .i64 x.seg.last,.int .i64 x.seg.pict,.int .i64 x.seg.conj,.bool x.seg.odd,y2],0⟩]∧Pt 2 c y1 x.pen∧Pt 3 c y2 x.open_:=by
 obtain ⟨b',y1,y2,e1,e2,h0,h1⟩:=R.feed_Feeder.ob k x hx;rw [ht] at e1;cases e1;exact ⟨y1,y2,e2,h0,h1⟩
theorem Rel.put_feed_Feeder {c:Cx} {s s':Sto} {G:Gm} {F:List En} {k:Nat} {E':List En} {x':bw} (O:Own c (jd G 4 k E') F) (R:Rel c s G) (h:s.set_feed_Feeder k x'=some s') (hY:ez c (c.t 4 k) E' x'):
  ∃G',Own c G' F∧Rel c s' G'∧G' 4 k=E'∧∀G0,dY G0 G→G0 4 k= []→dY G0 G':=by
 unfold Sto.set_feed_Feeder at h;split at h
 ·rename_i hk
  cases h;refine ⟨_,O,⟨R.row_Row.other (by decide),R.grid_Grid.other (by decide),R.place_Pen.other (by decide),R.widen_Cluster.other (by decide),R.feed_Feeder.set hk hY,R.screen_Screen.other (by decide),R.console_console.other (by decide)⟩,cK _ _ _ _,fun G0 h1 h2 g' k' h3=>?_⟩;rw [eA (by rintro ⟨rfl,rfl⟩; exact h3 h2)];exact h1 g' k' h3
 ·cases h
theorem Rel.new_feed_Feeder {c:Cx} {s:Sto} {G:Gm} {F E:List En} {x:bw} {b:Nat} (O:Own c G (E++F)) (R:Rel c s G) (hY:∀c',c.le c'→ez c' (some b) E x):
  ∃c' G',(c'.w=c.w∧c'.A=c.A)∧c.le c'∧c'.t 4 s.feed_Feeder.length=some b∧Own c' G' F∧Rel c' (s.add_feed_Feeder x) G'∧G' 4 s.feed_Feeder.length=E∧G 4 s.feed_Feeder.length= []∧dY G G':=by
 have hE:=R.feed_Feeder.no _ (ao _);have hne:E≠ []:=by
  obtain ⟨_,_,_,_,rfl,_⟩:=hY c (Cx.le.refl c);simp
 obtain ⟨c',hw,hle,ht,O'⟩:=Own.newObj (b:=b) O hE hne;have R':=R.mono hle;refine ⟨c',_,hw,hle,ht,O',⟨R'.row_Row.other (by decide),R'.grid_Grid.other (by decide),R'.place_Pen.other (by decide),R'.widen_Cluster.other (by decide),R'.feed_Feeder.new (by rw [ht]; exact hY c' hle),R'.screen_Screen.other (by decide),R'.console_console.other (by decide)⟩,cK _ _ _ _,hE,fun g' k' h3=>?_⟩;exact eA (by rintro ⟨rfl,rfl⟩; exact h3 hE)
theorem Rel.open_screen_Screen {c:Cx} {s:Sto} {G:Gm} {k b:Nat} {x:dK} (R:Rel c s G) (hx:s.screen_Screen[k]? = some x) (ht:c.t 5 k=some b):∃(y1:Value) (y2:Value),G 5 k= [⟨.pointer (some ⟨b,0,none⟩),47,[y1,y2],0⟩]∧Pt 4 c y1 x.Feeder∧Pt 2 c y2 x.pen:=by
 obtain ⟨b',y1,y2,e1,e2,h0,h1⟩:=R.screen_Screen.ob k x hx;rw [ht] at e1;cases e1;exact ⟨y1,y2,e2,h0,h1⟩
theorem Rel.new_screen_Screen {c:Cx} {s:Sto} {G:Gm} {F E:List En} {x:dK} {b:Nat} (O:Own c G (E++F)) (R:Rel c s G) (hY:∀c',c.le c'→eo c' (some b) E x):
  ∃c' G',(c'.w=c.w∧c'.A=c.A)∧c.le c'∧c'.t 5 s.screen_Screen.length=some b∧Own c' G' F∧Rel c' (s.add_screen_Screen x) G'∧G' 5 s.screen_Screen.length=E∧G 5 s.screen_Screen.length= []∧dY G G':=by
 have hE:=R.screen_Screen.no _ (ao _);have hne:E≠ []:=by
  obtain ⟨_,_,_,_,rfl,_⟩:=hY c (Cx.le.refl c);simp
 obtain ⟨c',hw,hle,ht,O'⟩:=Own.newObj (b:=b) O hE hne;have R':=R.mono hle;refine ⟨c',_,hw,hle,ht,O',⟨R'.row_Row.other (by decide),R'.grid_Grid.other (by decide),R'.place_Pen.other (by decide),R'.widen_Cluster.other (by decide),R'.feed_Feeder.other (by decide),R'.screen_Screen.new (by rw [ht]; exact hY c' hle),R'.console_console.other (by decide)⟩,cK _ _ _ _,hE,fun g' k' h3=>?_⟩;exact eA (by rintro ⟨rfl,rfl⟩; exact h3 hE)
theorem Rel.open_console_console {c:Cx} {s:Sto} {G:Gm} {k b:Nat} {x:co} (R:Rel c s G) (hx:s.console_console[k]? = some x) (ht:c.t 6 k=some b):∃(y1:Value),G 6 k= [⟨.pointer (some ⟨b,0,none⟩),29,[y1],0⟩]∧Pt 5 c y1 x.s:=by
 obtain ⟨b',y1,e1,e2,h0⟩:=R.console_console.ob k x hx;rw [ht] at e1;cases e1;exact ⟨y1,e2,h0⟩
theorem Rel.put_console_console {c:Cx} {s s':Sto} {G:Gm} {F:List En} {k:Nat} {E':List En} {x':co} (O:Own c (jd G 6 k E') F) (R:Rel c s G) (h:s.set_console_console k x'=some s') (hY:dh c (c.t 6 k) E' x'):
  ∃G',Own c G' F∧Rel c s' G'∧G' 6 k=E'∧∀G0,dY G0 G→G0 6 k= []→dY G0 G':=by
 unfold Sto.set_console_console at h;split at h
 ·rename_i hk
  cases h;refine ⟨_,O,⟨R.row_Row.other (by decide),R.grid_Grid.other (by decide),R.place_Pen.other (by decide),R.widen_Cluster.other (by decide),R.feed_Feeder.other (by decide),R.screen_Screen.other (by decide),R.console_console.set hk hY⟩,cK _ _ _ _,fun G0 h1 h2 g' k' h3=>?_⟩;rw [eA (by rintro ⟨rfl,rfl⟩; exact h3 h2)];exact h1 g' k' h3
 ·cases h
theorem Rel.new_console_console {c:Cx} {s:Sto} {G:Gm} {F E:List En} {x:co} {b:Nat} (O:Own c G (E++F)) (R:Rel c s G) (hY:∀c',c.le c'→dh c' (some b) E x):
  ∃c' G',(c'.w=c.w∧c'.A=c.A)∧c.le c'∧c'.t 6 s.console_console.length=some b∧Own c' G' F∧Rel c' (s.add_console_console x) G'∧G' 6 s.console_console.length=E∧G 6 s.console_console.length= []∧dY G G':=by
 have hE:=R.console_console.no _ (ao _);have hne:E≠ []:=by
  obtain ⟨_,_,_,rfl,_⟩:=hY c (Cx.le.refl c);simp
 obtain ⟨c',hw,hle,ht,O'⟩:=Own.newObj (b:=b) O hE hne;have R':=R.mono hle;refine ⟨c',_,hw,hle,ht,O',⟨R'.row_Row.other (by decide),R'.grid_Grid.other (by decide),R'.place_Pen.other (by decide),R'.widen_Cluster.other (by decide),R'.feed_Feeder.other (by decide),R'.screen_Screen.other (by decide),R'.console_console.new (by rw [ht]; exact hY c' hle)⟩,cK _ _ _ _,hE,fun g' k' h3=>?_⟩;exact eA (by rintro ⟨rfl,rfl⟩; exact h3 hE)
def Gl (n:List Nat) (c:Cx):Prop:=(∀g,g∈n→∃v,RE 318 126 c v (.sent g))∧∀g g',g∈n→g'∈n→g≠g'→∀a,Im c g 0 (.iface 318 (.pointer (some a)))→Im c g' 0 (.iface 318 (.pointer (some a)))→False
theorem Gl.lw {n:List Nat} {c c':Cx} (h:Gl n c) (k:c.lw c'):Gl n c':=by
 have key:∀g,g∈n→∀u,Im c' g 0 u→Im c g 0 u:=fun g hg u hu=>by
  obtain ⟨v,hv⟩:=h.1 g hg;have h1:=hv.im;have h2:=h1.lw k;have h3:=h2.cell.symm.trans hu.cell;cases h3;exact h1
 exact ⟨fun g hg=>(h.1 g hg).imp fun v hv=>hv.lw k,fun g g' hg hg' hne a h1 h2=>h.2 g g' hg hg' hne a (key g hg _ h1) (key g' hg' _ h2)⟩
theorem Gl.mono {n:List Nat} {c c':Cx} (h:Gl n c) (k:c.le c'):Gl n c':=h.lw k.lw
theorem Gl.m {n:List Nat} {c c':Cx} (h:Gl n c) (k:c.le c':=by repeat (first | assumption | refine Cx.le.trans ?_ (by assumption))):Gl n c':=h.mono k
theorem Gl.le {n m:List Nat} {c:Cx} (h:Gl n c) (k:∀g∈m,g∈n):Gl m c:=⟨fun g hg=>h.1 g (k g hg),fun g g' hg hg'=>h.2 g g' (k g hg) (k g' hg')⟩
theorem Gl.get {n:List Nat} {c:Cx} (h:Gl n c) (g:Nat) (hg:g∈n):∃v,RE 318 126 c v (.sent g):=h.1 g hg
end Go.Proofs.YtceciacilfhmjaaGreatDoor
namespace Go.Proofs.YtceciacilfhmjaaGreatDoor
open Go Go.Lt
set_option maxRecDepth 10000
set_option linter.unusedVariables false
attribute [local irreducible] W WL AC
open Go.RowKit
structure Et (c:Cx):Prop where
 ml:∃m,Im c 10 0 (.int .i64 m)
 fz:Fz c 12
 tb:Lib.TabIs Tryz.prog c.w "internal/strconv.uint64pow10" .u64 Lib.pow10Tab
theorem uI:Tryz.prog.globalNamed "internal/strconv.uint64pow10" = some 12:=by kernel_rfl
theorem EH {w w':World} (h:w'.heap[12]? = w.heap[12]?) (t:Lib.TabIs Tryz.prog w "internal/strconv.uint64pow10" .u64 Lib.pow10Tab):Lib.TabIs Tryz.prog w' "internal/strconv.uint64pow10" .u64 Lib.pow10Tab:=by
 unfold Lib.TabIs World.var? at t⊢;rw [uI] at t⊢;simp only [tF] at t⊢;rw [h];exact t
theorem Et.mono {c c':Cx} (h:Et c) (k:c.le c'):Et c':=by
 obtain ⟨m,hm⟩:=h.ml;exact ⟨⟨m,hm.mono k⟩,h.fz.mono k,EH (k.block _ h.fz.lt h.fz.nA) h.tb⟩
theorem Et.m {c c':Cx} (h:Et c) (k:c.le c':=by repeat (first | assumption | refine Cx.le.trans ?_ (by assumption))):Et c':=h.mono k
section
variable {P:Program} {c0:Cx} {G:Gm} {F:List En}
theorem lq (O0:Own c0 G F) {f:FuncId} {args:Array Value} {v:Value} (h:Calls P f args c0.w fun e w'=>e= .returned v∧RowKit.Below c0.w.heap.size c0.w w'):
  Calls P f args c0.w (aO c0 fun c v'=>Own c G F∧v'=v):=by
 refine h.mono ?_;rintro e w' ⟨rfl,hb⟩;obtain ⟨c',rfl,h2,h3,_⟩:=Own.below O0 hb;exact ⟨_,c',rfl,rfl,h2,h3,rfl⟩
theorem ur (w:World) (e:TypeId) (s:ByteArray):RowKit.Below w.heap.size w (Lib.bytesWorld w e s):=by
 unfold Lib.bytesWorld;refine RowKit.Below.trans (b:=w.drew.alloc (.cells (Lib.bytesCells w e s) e)) ((gV w.heap.size w).drew.alloc (ao _) _) ?_;refine ⟨rfl,rfl,rfl,?_,fun k hk=>?_⟩
 ·simp [World.freeze]
 ·simp [World.freeze,iV,Nat.ne_of_gt hk]
end
def mkS (l:List UInt8):ByteArray:=⟨l.toArray⟩
def blS (s:ByteArray):List UInt8:=s.data.toList
def sY:Go.Shelf.Ren:=⟨fun | 0=>0 | 1=>1 | 2=>2 | 99=>20 | 101=>31 | 103=>136 | 119=>258 | 120=>231 | 129=>160 | 137=>135 | 138=>134 | 143=>26 | 146=>64 | 151=>206 | 152=>230 | 156=>53 | 160=>137 | 165=>90 | 166=>8 | 169=>10 | 171=>34 | 172=>138 | 173=>85 | 195=>164 | 197=>25 | 205=>234 | 206=>38 | 208=>54 | 210=>166 | 217=>79 | 218=>165 | 219=>45 | 221=>98 | 224=>81 | 225=>80 | 227=>169 | 228=>205 | 231=>167 | 232=>168 | 233=>170 | 234=>171 | 235=>172 | 236=>173 | 240=>14 | 241=>123 | 243=>61 | 244=>174 | 245=>175 | 246=>96 | 247=>208 | 260=>44 | 266=>119 | 267=>82 | 268=>133 | 271=>207 | 276=>27 | 277=>158 | 279=>209 | 280=>210 | 281=>211 | 282=>212 | 283=>129 | 284=>130 | 285=>131 | 286=>132 | 287=>232 | 314=>120 | 316=>233 | 317=>159 | 318=>161 | 319=>162 | 320=>163 | 321=>259 | 322=>260 | 337=>203 | 338=>204 | 347=>273 | 348=>274 | 349=>275 | 350=>276 | 351=>277 | 352=>278 | 353=>279 | 354=>280 | 355=>281 | 356=>282 | 357=>283 | 358=>284 | 359=>285 | 360=>288 | 361=>289 | 362=>290 | 363=>311 | 364=>308 | 365=>309 | 366=>296 | 367=>332 | n=>n,fun | 0=>0 | 1=>1 | 2=>2 | 3=>3 | 4=>4 | 5=>5 | 6=>6 | 7=>7 | 8=>8 | 9=>9 | 10=>10 | 11=>11 | 12=>12 | 13=>13 | 14=>14 | 15=>15 | 16=>16 | 17=>17 | 18=>18 | 19=>19 | 20=>20 | 21=>21 | 22=>24 | 23=>77 | 24=>200 | 25=>201 | 27=>68 | 28=>112 | 31=>83 | 37=>31 | 39=>188 | 40=>150 | 41=>271 | 43=>86 | 46=>139 | 47=>232 | 48=>249 | 49=>347 | 51=>183 | 52=>270 | 53=>193 | 54=>194 | 55=>143 | 57=>156 | 61=>118 | 63=>272 | 64=>294 | 67=>107 | 69=>23 | 70=>30 | 71=>32 | 72=>33 | 73=>148 | 74=>37 | 75=>38 | 76=>39 | 77=>40 | 80=>41 | 81=>84 | 83=>82 | 84=>146 | 85=>274 | 86=>275 | 103=>233 | 104=>65 | 105=>66 | 106=>67 | 108=>299 | 111=>179 | 112=>322 | 113=>155 | 114=>117 | 115=>235 | 116=>236 | 117=>237 | 118=>238 | 119=>138 | 122=>234 | 123=>239 | 124=>240 | 127=>51 | 128=>241 | 131=>159 | 137=>140 | 138=>141 | 139=>142 | 143=>318 | 144=>319 | 145=>320 | 146=>184 | 150=>199 | 151=>185 | 164=>69 | 165=>70 | 166=>228 | 167=>273 | 168=>276 | 169=>277 | 170=>278 | 171=>192 | 172=>195 | 173=>196 | 174=>197 | 175=>295 | 176=>296 | 209=>297 | 210=>298 | 211=>229 | 212=>230 | 213=>231 | 214=>317 | 232=>292 | 233=>293 | 238=>329 | 239=>330 | 240=>331 | 241=>332 | 242=>333 | 243=>335 | 244=>168 | 245=>336 | 246=>337 | 247=>338 | 248=>339 | 249=>340 | n=>n,fun | 1=>10 | 3=>8 | 4=>9 | 15=>15 | 16=>16 | 17=>12 | 18=>13 | 19=>14 | n=>n⟩
theorem xk:Lays.n103 Tryz.prog sY:=by
 constructor <;> first | kernel_rfl | (intro w; kernel_rfl) | (constructor <;> first | kernel_rfl | (intro w; kernel_rfl))
def sX:Go.Shelf.Ren:=⟨fun | 0=>0 | 1=>1 | 2=>2 | 99=>20 | 101=>31 | 103=>136 | 119=>258 | 120=>231 | 129=>160 | 137=>135 | 138=>134 | 143=>26 | 146=>64 | 151=>206 | 152=>230 | 156=>53 | 160=>137 | 165=>90 | 166=>8 | 169=>10 | 171=>34 | 172=>138 | 173=>85 | 195=>164 | 197=>25 | 205=>234 | 206=>38 | 208=>54 | 210=>166 | 217=>79 | 218=>165 | 219=>45 | 221=>98 | 224=>81 | 225=>80 | 227=>169 | 228=>205 | 231=>167 | 232=>168 | 233=>170 | 234=>171 | 235=>172 | 236=>173 | 240=>14 | 241=>123 | 243=>61 | 244=>174 | 245=>175 | 246=>96 | 247=>208 | 260=>44 | 266=>119 | 267=>82 | 268=>133 | 271=>207 | 276=>27 | 277=>158 | 279=>209 | 280=>210 | 281=>211 | 282=>212 | 283=>129 | 284=>130 | 285=>131 | 286=>132 | 287=>232 | 314=>120 | 316=>233 | 317=>159 | 318=>161 | 319=>162 | 320=>163 | 321=>259 | 322=>260 | 337=>203 | 338=>204 | 347=>273 | 348=>274 | 349=>275 | 350=>276 | 351=>277 | 352=>278 | 353=>279 | 354=>280 | 355=>281 | 356=>282 | 357=>283 | 358=>284 | 359=>285 | 360=>288 | 361=>289 | 362=>290 | 363=>311 | 364=>308 | 365=>309 | 366=>296 | 367=>332 | n=>n,fun | 0=>0 | 1=>1 | 2=>2 | 3=>3 | 4=>4 | 5=>5 | 6=>6 | 7=>7 | 8=>8 | 9=>9 | 10=>10 | 11=>11 | 12=>12 | 13=>13 | 14=>14 | 15=>15 | 16=>16 | 17=>17 | 18=>18 | 19=>19 | 20=>20 | 21=>21 | 22=>24 | 23=>77 | 24=>200 | 25=>201 | 27=>68 | 28=>112 | 31=>83 | 37=>31 | 39=>188 | 40=>150 | 41=>271 | 43=>86 | 46=>139 | 47=>232 | 48=>249 | 49=>347 | 51=>183 | 52=>270 | 53=>193 | 54=>194 | 55=>143 | 57=>156 | 61=>118 | 63=>272 | 64=>294 | 67=>107 | 69=>23 | 70=>30 | 71=>32 | 72=>33 | 73=>148 | 74=>37 | 75=>38 | 76=>39 | 77=>40 | 80=>41 | 81=>84 | 83=>82 | 84=>146 | 85=>274 | 86=>275 | 103=>233 | 104=>65 | 105=>66 | 106=>67 | 108=>299 | 111=>179 | 112=>322 | 113=>155 | 114=>117 | 115=>235 | 116=>236 | 117=>237 | 118=>238 | 119=>138 | 122=>234 | 123=>239 | 124=>240 | 127=>51 | 128=>241 | 131=>159 | 137=>140 | 138=>141 | 139=>142 | 143=>318 | 144=>319 | 145=>320 | 146=>184 | 150=>199 | 151=>185 | 164=>69 | 165=>70 | 166=>228 | 167=>273 | 168=>276 | 169=>277 | 170=>278 | 171=>192 | 172=>195 | 173=>196 | 174=>197 | 175=>295 | 176=>296 | 209=>297 | 210=>298 | 211=>229 | 212=>230 | 213=>231 | 214=>317 | 232=>292 | 233=>293 | 238=>329 | 239=>330 | 240=>331 | 241=>332 | 242=>333 | 243=>335 | 244=>168 | 245=>336 | 246=>337 | 247=>338 | 248=>339 | 249=>340 | n=>n,fun | 1=>10 | 3=>8 | 4=>9 | 15=>15 | 16=>16 | 17=>12 | 18=>13 | 19=>14 | n=>n⟩
theorem xj:Lays.n137 Tryz.prog sX:=by
 constructor <;> first | kernel_rfl | (intro w; kernel_rfl) | (constructor <;> first | kernel_rfl | (intro w; kernel_rfl))
def rI:Go.Shelf.Ren:=⟨fun | 0=>0 | 1=>1 | 2=>2 | 99=>20 | 101=>31 | 103=>136 | 119=>258 | 120=>231 | 129=>160 | 137=>135 | 138=>134 | 143=>26 | 146=>64 | 151=>206 | 152=>230 | 156=>53 | 160=>137 | 165=>90 | 166=>8 | 169=>10 | 171=>34 | 172=>138 | 173=>85 | 195=>164 | 197=>25 | 205=>234 | 206=>38 | 208=>54 | 210=>166 | 217=>79 | 218=>165 | 219=>45 | 221=>98 | 224=>81 | 225=>80 | 227=>169 | 228=>205 | 231=>167 | 232=>168 | 233=>170 | 234=>171 | 235=>172 | 236=>173 | 240=>14 | 241=>123 | 243=>61 | 244=>174 | 245=>175 | 246=>96 | 247=>208 | 260=>44 | 266=>119 | 267=>82 | 268=>133 | 271=>207 | 276=>27 | 277=>158 | 279=>209 | 280=>210 | 281=>211 | 282=>212 | 283=>129 | 284=>130 | 285=>131 | 286=>132 | 287=>232 | 314=>120 | 316=>233 | 317=>159 | 318=>161 | 319=>162 | 320=>163 | 321=>259 | 322=>260 | 337=>203 | 338=>204 | 347=>273 | 348=>274 | 349=>275 | 350=>276 | 351=>277 | 352=>278 | 353=>279 | 354=>280 | 355=>281 | 356=>282 | 357=>283 | 358=>284 | 359=>285 | 360=>288 | 361=>289 | 362=>290 | 363=>311 | 364=>308 | 365=>309 | 366=>296 | 367=>332 | n=>n,fun | 0=>0 | 1=>1 | 2=>2 | 3=>3 | 4=>4 | 5=>5 | 6=>6 | 7=>7 | 8=>8 | 9=>9 | 10=>10 | 11=>11 | 12=>12 | 13=>13 | 14=>14 | 15=>15 | 16=>16 | 17=>17 | 18=>18 | 19=>19 | 20=>20 | 21=>21 | 22=>24 | 23=>77 | 24=>200 | 25=>201 | 27=>68 | 28=>112 | 31=>83 | 37=>31 | 39=>188 | 40=>150 | 41=>271 | 43=>86 | 46=>139 | 47=>232 | 48=>249 | 49=>347 | 51=>183 | 52=>270 | 53=>193 | 54=>194 | 55=>143 | 57=>156 | 61=>118 | 63=>272 | 64=>294 | 67=>107 | 69=>23 | 70=>30 | 71=>32 | 72=>33 | 73=>148 | 74=>37 | 75=>38 | 76=>39 | 77=>40 | 80=>41 | 81=>84 | 83=>82 | 84=>146 | 85=>274 | 86=>275 | 103=>233 | 104=>65 | 105=>66 | 106=>67 | 108=>299 | 111=>179 | 112=>322 | 113=>155 | 114=>117 | 115=>235 | 116=>236 | 117=>237 | 118=>238 | 119=>138 | 122=>234 | 123=>239 | 124=>240 | 127=>51 | 128=>241 | 131=>159 | 137=>140 | 138=>141 | 139=>142 | 143=>318 | 144=>319 | 145=>320 | 146=>184 | 150=>199 | 151=>185 | 164=>69 | 165=>70 | 166=>228 | 167=>273 | 168=>276 | 169=>277 | 170=>278 | 171=>192 | 172=>195 | 173=>196 | 174=>197 | 175=>295 | 176=>296 | 209=>297 | 210=>298 | 211=>229 | 212=>230 | 213=>231 | 214=>317 | 232=>292 | 233=>293 | 238=>329 | 239=>330 | 240=>331 | 241=>332 | 242=>333 | 243=>335 | 244=>168 | 245=>336 | 246=>337 | 247=>338 | 248=>339 | 249=>340 | n=>n,fun | 1=>10 | 3=>8 | 4=>9 | 15=>15 | 16=>16 | 17=>12 | 18=>13 | 19=>14 | n=>n⟩
theorem DN:Lays.n146 Tryz.prog rI:=by
 constructor <;> first | kernel_rfl | (intro w; kernel_rfl) | (constructor <;> first | kernel_rfl | (intro w; kernel_rfl))
def yU:Go.Shelf.Ren:=⟨fun | 0=>0 | 1=>1 | 2=>2 | 99=>20 | 101=>31 | 103=>136 | 119=>258 | 120=>231 | 129=>160 | 137=>135 | 138=>134 | 143=>26 | 146=>64 | 151=>206 | 152=>230 | 156=>53 | 160=>137 | 165=>90 | 166=>8 | 169=>10 | 171=>34 | 172=>138 | 173=>85 | 195=>164 | 197=>25 | 205=>234 | 206=>38 | 208=>54 | 210=>166 | 217=>79 | 218=>165 | 219=>45 | 221=>98 | 224=>81 | 225=>80 | 227=>169 | 228=>205 | 231=>167 | 232=>168 | 233=>170 | 234=>171 | 235=>172 | 236=>173 | 240=>14 | 241=>123 | 243=>61 | 244=>174 | 245=>175 | 246=>96 | 247=>208 | 260=>44 | 266=>119 | 267=>82 | 268=>133 | 271=>207 | 276=>27 | 277=>158 | 279=>209 | 280=>210 | 281=>211 | 282=>212 | 283=>129 | 284=>130 | 285=>131 | 286=>132 | 287=>232 | 314=>120 | 316=>233 | 317=>159 | 318=>161 | 319=>162 | 320=>163 | 321=>259 | 322=>260 | 337=>203 | 338=>204 | 347=>273 | 348=>274 | 349=>275 | 350=>276 | 351=>277 | 352=>278 | 353=>279 | 354=>280 | 355=>281 | 356=>282 | 357=>283 | 358=>284 | 359=>285 | 360=>288 | 361=>289 | 362=>290 | 363=>311 | 364=>308 | 365=>309 | 366=>296 | 367=>332 | n=>n,fun | 0=>0 | 1=>1 | 2=>2 | 3=>3 | 4=>4 | 5=>5 | 6=>6 | 7=>7 | 8=>8 | 9=>9 | 10=>10 | 11=>11 | 12=>12 | 13=>13 | 14=>14 | 15=>15 | 16=>16 | 17=>17 | 18=>18 | 19=>19 | 20=>20 | 21=>21 | 22=>24 | 23=>77 | 24=>200 | 25=>201 | 27=>68 | 28=>112 | 31=>83 | 37=>31 | 39=>188 | 40=>150 | 41=>271 | 43=>86 | 46=>139 | 47=>232 | 48=>249 | 49=>347 | 51=>183 | 52=>270 | 53=>193 | 54=>194 | 55=>143 | 57=>156 | 61=>118 | 63=>272 | 64=>294 | 67=>107 | 69=>23 | 70=>30 | 71=>32 | 72=>33 | 73=>148 | 74=>37 | 75=>38 | 76=>39 | 77=>40 | 80=>41 | 81=>84 | 83=>82 | 84=>146 | 85=>274 | 86=>275 | 103=>233 | 104=>65 | 105=>66 | 106=>67 | 108=>299 | 111=>179 | 112=>322 | 113=>155 | 114=>117 | 115=>235 | 116=>236 | 117=>237 | 118=>238 | 119=>138 | 122=>234 | 123=>239 | 124=>240 | 127=>51 | 128=>241 | 131=>159 | 137=>140 | 138=>141 | 139=>142 | 143=>318 | 144=>319 | 145=>320 | 146=>184 | 150=>199 | 151=>185 | 164=>69 | 165=>70 | 166=>228 | 167=>273 | 168=>276 | 169=>277 | 170=>278 | 171=>192 | 172=>195 | 173=>196 | 174=>197 | 175=>295 | 176=>296 | 209=>297 | 210=>298 | 211=>229 | 212=>230 | 213=>231 | 214=>317 | 232=>292 | 233=>293 | 238=>329 | 239=>330 | 240=>331 | 241=>332 | 242=>333 | 243=>335 | 244=>168 | 245=>336 | 246=>337 | 247=>338 | 248=>339 | 249=>340 | n=>n,fun | 1=>10 | 3=>8 | 4=>9 | 15=>15 | 16=>16 | 17=>12 | 18=>13 | 19=>14 | n=>n⟩
theorem FB:Lays.n160 Tryz.prog yU:=by
 constructor <;> first | kernel_rfl | (intro w; kernel_rfl) | (constructor <;> first | kernel_rfl | (intro w; kernel_rfl))
def yV:Go.Shelf.Ren:=⟨fun | 0=>0 | 1=>1 | 2=>2 | 99=>20 | 101=>31 | 103=>136 | 119=>258 | 120=>231 | 129=>160 | 137=>135 | 138=>134 | 143=>26 | 146=>64 | 151=>206 | 152=>230 | 156=>53 | 160=>137 | 165=>90 | 166=>8 | 169=>10 | 171=>34 | 172=>138 | 173=>85 | 195=>164 | 197=>25 | 205=>234 | 206=>38 | 208=>54 | 210=>166 | 217=>79 | 218=>165 | 219=>45 | 221=>98 | 224=>81 | 225=>80 | 227=>169 | 228=>205 | 231=>167 | 232=>168 | 233=>170 | 234=>171 | 235=>172 | 236=>173 | 240=>14 | 241=>123 | 243=>61 | 244=>174 | 245=>175 | 246=>96 | 247=>208 | 260=>44 | 266=>119 | 267=>82 | 268=>133 | 271=>207 | 276=>27 | 277=>158 | 279=>209 | 280=>210 | 281=>211 | 282=>212 | 283=>129 | 284=>130 | 285=>131 | 286=>132 | 287=>232 | 314=>120 | 316=>233 | 317=>159 | 318=>161 | 319=>162 | 320=>163 | 321=>259 | 322=>260 | 337=>203 | 338=>204 | 347=>273 | 348=>274 | 349=>275 | 350=>276 | 351=>277 | 352=>278 | 353=>279 | 354=>280 | 355=>281 | 356=>282 | 357=>283 | 358=>284 | 359=>285 | 360=>288 | 361=>289 | 362=>290 | 363=>311 | 364=>308 | 365=>309 | 366=>296 | 367=>332 | n=>n,fun | 0=>0 | 1=>1 | 2=>2 | 3=>3 | 4=>4 | 5=>5 | 6=>6 | 7=>7 | 8=>8 | 9=>9 | 10=>10 | 11=>11 | 12=>12 | 13=>13 | 14=>14 | 15=>15 | 16=>16 | 17=>17 | 18=>18 | 19=>19 | 20=>20 | 21=>21 | 22=>24 | 23=>77 | 24=>200 | 25=>201 | 27=>68 | 28=>112 | 31=>83 | 37=>31 | 39=>188 | 40=>150 | 41=>271 | 43=>86 | 46=>139 | 47=>232 | 48=>249 | 49=>347 | 51=>183 | 52=>270 | 53=>193 | 54=>194 | 55=>143 | 57=>156 | 61=>118 | 63=>272 | 64=>294 | 67=>107 | 69=>23 | 70=>30 | 71=>32 | 72=>33 | 73=>148 | 74=>37 | 75=>38 | 76=>39 | 77=>40 | 80=>41 | 81=>84 | 83=>82 | 84=>146 | 85=>274 | 86=>275 | 103=>233 | 104=>65 | 105=>66 | 106=>67 | 108=>299 | 111=>179 | 112=>322 | 113=>155 | 114=>117 | 115=>235 | 116=>236 | 117=>237 | 118=>238 | 119=>138 | 122=>234 | 123=>239 | 124=>240 | 127=>51 | 128=>241 | 131=>159 | 137=>140 | 138=>141 | 139=>142 | 143=>318 | 144=>319 | 145=>320 | 146=>184 | 150=>199 | 151=>185 | 164=>69 | 165=>70 | 166=>228 | 167=>273 | 168=>276 | 169=>277 | 170=>278 | 171=>192 | 172=>195 | 173=>196 | 174=>197 | 175=>295 | 176=>296 | 209=>297 | 210=>298 | 211=>229 | 212=>230 | 213=>231 | 214=>317 | 232=>292 | 233=>293 | 238=>329 | 239=>330 | 240=>331 | 241=>332 | 242=>333 | 243=>335 | 244=>168 | 245=>336 | 246=>337 | 247=>338 | 248=>339 | 249=>340 | n=>n,fun | 1=>10 | 3=>8 | 4=>9 | 15=>15 | 16=>16 | 17=>12 | 18=>13 | 19=>14 | n=>n⟩
theorem FC:LaysM.n171 Tryz.prog yV:=by
 constructor <;> first | kernel_rfl | (intro w; kernel_rfl) | (constructor <;> first | kernel_rfl | (intro w; kernel_rfl))
def yW:Go.Shelf.Ren:=⟨fun | 0=>0 | 1=>1 | 2=>2 | 99=>20 | 101=>31 | 103=>136 | 119=>258 | 120=>231 | 129=>160 | 137=>135 | 138=>134 | 143=>26 | 146=>64 | 151=>206 | 152=>230 | 156=>53 | 160=>137 | 165=>90 | 166=>8 | 169=>10 | 171=>34 | 172=>138 | 173=>85 | 195=>164 | 197=>25 | 205=>234 | 206=>38 | 208=>54 | 210=>166 | 217=>79 | 218=>165 | 219=>45 | 221=>98 | 224=>81 | 225=>80 | 227=>169 | 228=>205 | 231=>167 | 232=>168 | 233=>170 | 234=>171 | 235=>172 | 236=>173 | 240=>14 | 241=>123 | 243=>61 | 244=>174 | 245=>175 | 246=>96 | 247=>208 | 260=>44 | 266=>119 | 267=>82 | 268=>133 | 271=>207 | 276=>27 | 277=>158 | 279=>209 | 280=>210 | 281=>211 | 282=>212 | 283=>129 | 284=>130 | 285=>131 | 286=>132 | 287=>232 | 314=>120 | 316=>233 | 317=>159 | 318=>161 | 319=>162 | 320=>163 | 321=>259 | 322=>260 | 337=>203 | 338=>204 | 347=>273 | 348=>274 | 349=>275 | 350=>276 | 351=>277 | 352=>278 | 353=>279 | 354=>280 | 355=>281 | 356=>282 | 357=>283 | 358=>284 | 359=>285 | 360=>288 | 361=>289 | 362=>290 | 363=>311 | 364=>308 | 365=>309 | 366=>296 | 367=>332 | n=>n,fun | 0=>0 | 1=>1 | 2=>2 | 3=>3 | 4=>4 | 5=>5 | 6=>6 | 7=>7 | 8=>8 | 9=>9 | 10=>10 | 11=>11 | 12=>12 | 13=>13 | 14=>14 | 15=>15 | 16=>16 | 17=>17 | 18=>18 | 19=>19 | 20=>20 | 21=>21 | 22=>24 | 23=>77 | 24=>200 | 25=>201 | 27=>68 | 28=>112 | 31=>83 | 37=>31 | 39=>188 | 40=>150 | 41=>271 | 43=>86 | 46=>139 | 47=>232 | 48=>249 | 49=>347 | 51=>183 | 52=>270 | 53=>193 | 54=>194 | 55=>143 | 57=>156 | 61=>118 | 63=>272 | 64=>294 | 67=>107 | 69=>23 | 70=>30 | 71=>32 | 72=>33 | 73=>148 | 74=>37 | 75=>38 | 76=>39 | 77=>40 | 80=>41 | 81=>84 | 83=>82 | 84=>146 | 85=>274 | 86=>275 | 103=>233 | 104=>65 | 105=>66 | 106=>67 | 108=>299 | 111=>179 | 112=>322 | 113=>155 | 114=>117 | 115=>235 | 116=>236 | 117=>237 | 118=>238 | 119=>138 | 122=>234 | 123=>239 | 124=>240 | 127=>51 | 128=>241 | 131=>159 | 137=>140 | 138=>141 | 139=>142 | 143=>318 | 144=>319 | 145=>320 | 146=>184 | 150=>199 | 151=>185 | 164=>69 | 165=>70 | 166=>228 | 167=>273 | 168=>276 | 169=>277 | 170=>278 | 171=>192 | 172=>195 | 173=>196 | 174=>197 | 175=>295 | 176=>296 | 209=>297 | 210=>298 | 211=>229 | 212=>230 | 213=>231 | 214=>317 | 232=>292 | 233=>293 | 238=>329 | 239=>330 | 240=>331 | 241=>332 | 242=>333 | 243=>335 | 244=>168 | 245=>336 | 246=>337 | 247=>338 | 248=>339 | 249=>340 | n=>n,fun | 1=>10 | 3=>8 | 4=>9 | 15=>15 | 16=>16 | 17=>12 | 18=>13 | 19=>14 | n=>n⟩
theorem FF:Lays.n172 Tryz.prog yW:=by
 constructor <;> first | kernel_rfl | (intro w; kernel_rfl) | (constructor <;> first | kernel_rfl | (intro w; kernel_rfl))
def sV:Go.Shelf.Ren:=⟨fun | 0=>0 | 1=>1 | 2=>2 | 99=>20 | 101=>31 | 103=>136 | 119=>258 | 120=>231 | 129=>160 | 137=>135 | 138=>134 | 143=>26 | 146=>64 | 151=>206 | 152=>230 | 156=>53 | 160=>137 | 165=>90 | 166=>8 | 169=>10 | 171=>34 | 172=>138 | 173=>85 | 195=>164 | 197=>25 | 205=>234 | 206=>38 | 208=>54 | 210=>166 | 217=>79 | 218=>165 | 219=>45 | 221=>98 | 224=>81 | 225=>80 | 227=>169 | 228=>205 | 231=>167 | 232=>168 | 233=>170 | 234=>171 | 235=>172 | 236=>173 | 240=>14 | 241=>123 | 243=>61 | 244=>174 | 245=>175 | 246=>96 | 247=>208 | 260=>44 | 266=>119 | 267=>82 | 268=>133 | 271=>207 | 276=>27 | 277=>158 | 279=>209 | 280=>210 | 281=>211 | 282=>212 | 283=>129 | 284=>130 | 285=>131 | 286=>132 | 287=>232 | 314=>120 | 316=>233 | 317=>159 | 318=>161 | 319=>162 | 320=>163 | 321=>259 | 322=>260 | 337=>203 | 338=>204 | 347=>273 | 348=>274 | 349=>275 | 350=>276 | 351=>277 | 352=>278 | 353=>279 | 354=>280 | 355=>281 | 356=>282 | 357=>283 | 358=>284 | 359=>285 | 360=>288 | 361=>289 | 362=>290 | 363=>311 | 364=>308 | 365=>309 | 366=>296 | 367=>332 | n=>n,fun | 0=>0 | 1=>1 | 2=>2 | 3=>3 | 4=>4 | 5=>5 | 6=>6 | 7=>7 | 8=>8 | 9=>9 | 10=>10 | 11=>11 | 12=>12 | 13=>13 | 14=>14 | 15=>15 | 16=>16 | 17=>17 | 18=>18 | 19=>19 | 20=>20 | 21=>21 | 22=>24 | 23=>77 | 24=>200 | 25=>201 | 27=>68 | 28=>112 | 31=>83 | 37=>31 | 39=>188 | 40=>150 | 41=>271 | 43=>86 | 46=>139 | 47=>232 | 48=>249 | 49=>347 | 51=>183 | 52=>270 | 53=>193 | 54=>194 | 55=>143 | 57=>156 | 61=>118 | 63=>272 | 64=>294 | 67=>107 | 69=>23 | 70=>30 | 71=>32 | 72=>33 | 73=>148 | 74=>37 | 75=>38 | 76=>39 | 77=>40 | 80=>41 | 81=>84 | 83=>82 | 84=>146 | 85=>274 | 86=>275 | 103=>233 | 104=>65 | 105=>66 | 106=>67 | 108=>299 | 111=>179 | 112=>322 | 113=>155 | 114=>117 | 115=>235 | 116=>236 | 117=>237 | 118=>238 | 119=>138 | 122=>234 | 123=>239 | 124=>240 | 127=>51 | 128=>241 | 131=>159 | 137=>140 | 138=>141 | 139=>142 | 143=>318 | 144=>319 | 145=>320 | 146=>184 | 150=>199 | 151=>185 | 164=>69 | 165=>70 | 166=>228 | 167=>273 | 168=>276 | 169=>277 | 170=>278 | 171=>192 | 172=>195 | 173=>196 | 174=>197 | 175=>295 | 176=>296 | 209=>297 | 210=>298 | 211=>229 | 212=>230 | 213=>231 | 214=>317 | 232=>292 | 233=>293 | 238=>329 | 239=>330 | 240=>331 | 241=>332 | 242=>333 | 243=>335 | 244=>168 | 245=>336 | 246=>337 | 247=>338 | 248=>339 | 249=>340 | n=>n,fun | 1=>10 | 3=>8 | 4=>9 | 15=>15 | 16=>16 | 17=>12 | 18=>13 | 19=>14 | n=>n⟩
theorem As:Lays.n156 Tryz.prog sV:=by
 constructor <;> first | kernel_rfl | (intro w; kernel_rfl) | (constructor <;> first | kernel_rfl | (intro w; kernel_rfl))
theorem vZ:Go.Proofs.Builder.Extra Tryz.prog sV:=by
 constructor <;> first | kernel_rfl | (intro w; kernel_rfl) | decide | (constructor <;> kernel_rfl)
def fY (p0 p1:ByteArray):Option (ByteArray×Bool):=some (mkS (Lib.trimPrefix (blS p0) (blS p1)),Lib.hasPrefix (blS p0) (blS p1))
def dR (p0:ByteArray) (p1:Int):Option Int:=some (Lib.indexByte (blS p0) p1.toNat.toUInt8)
def iI (p0 p1:ByteArray):Option ByteArray:=if p0.size≤9223372036854775807∧p1.size < 4294967281∧(blS p1).all (fun b=>decide (b.toNat < 128))=true then some (mkS (Lib.trimS (blS p0) (blS p1))) else none
def jx (p0 p1:ByteArray):Option (List ByteArray):=if p0.size < 4294967281∧1≤p1.size then some (Lib.splitB p1 0 (Lib.countB p0 p1) p0) else none
def bu (p0:Int):Option ByteArray:=if -9223372036854775808≤p0∧p0≤9223372036854775807 then some (mkS (Lib.itoa p0)) else none
def jX (p0:ByteArray):Option (Int×Er):=if p0.size≤18 then (Lib.atoi (blS p0)).map fun n=>(n,Er.nil) else none
def fJ (p0:List ByteArray) (p1:ByteArray):Option ByteArray:=if p0.length≤140737488355328∧(Lib.join (p0.map blS) (blS p1)).length≤140737488355328 then some (mkS (Lib.join (p0.map blS) (blS p1))) else none
section
variable {c0:Cx} {G:Gm} {F:List En}
abbrev dS:= @Tryz.underlying102
abbrev zM:= @Tryz.underlying112
abbrev uz:= @Tryz.underlying153
abbrev rh:= @Tryz.underlying21
abbrev xN:= @Tryz.underlying231
abbrev Dg:= @Tryz.underlying26
abbrev u_3:= @Tryz.underlying3
abbrev gR:= @Tryz.underlying302
abbrev uy:= @Tryz.underlying306
abbrev mZ:= @Tryz.underlying31
abbrev qd:= @Tryz.underlying38
abbrev u_4:= @Tryz.underlying4
abbrev zL:= @Tryz.underlying42
abbrev EB:= @Tryz.underlying44
abbrev Df:= @Tryz.underlying49
abbrev u_5:= @Tryz.underlying5
abbrev iZ:= @Tryz.underlying52
abbrev qc:= @Tryz.underlying72
abbrev nq:= @Tryz.underlying83
abbrev u_9:= @Tryz.underlying9
abbrev pX:= @Tryz.underlying92
abbrev Ha:= @Tryz.underlying95
abbrev dN:= @Tryz.underlying99
theorem rm (O0:Own c0 G F) (p0 p1:ByteArray) {r:ByteArray×Bool} (H:fY p0 p1=some r):
  Calls Tryz.prog 136 #[.string p0,.string p1] c0.w (aO c0 fun c v=>Own c G F∧v= .tuple #[.string r.1,.bool r.2]):=by
 cases H
 refine lq O0 ((Go.Proofs.Any.strings_CutPrefix xk p0 p1 c0.w).mono ?_)
 rintro e w' ⟨rfl,rfl⟩
 exact ⟨rfl,gV _ _⟩
theorem nj (O0:Own c0 G F) (p0:ByteArray) (p1:Int) {r:Int} (H:dR p0 p1=some r):
  Calls Tryz.prog 135 #[.string p0,.int .u8 p1] c0.w (aO c0 fun c v=>Own c G F∧v= .int .i64 r):=by
 cases H
 refine lq O0 ((Go.Proofs.Any.strings_IndexByte xj p0 p1 c0.w).mono ?_)
 rintro e w' ⟨rfl,rfl⟩
 exact ⟨rfl,gV _ _⟩
theorem qE (O0:Own c0 G F) (hT:Et c0) (p0 p1:ByteArray) {r:ByteArray} (H:iI p0 p1=some r):
  Calls Tryz.prog 137 #[.string p0,.string p1] c0.w (aO c0 fun c v=>Own c G F∧v= .string r):=by
 unfold iI at H
 split at H
 ·rename_i h
  cases H
  exact lq O0 (Go.Proofs.Any.strings_Trim_laid FB (by kernel_rfl) p0 p1 c0.w h.1 h.2.1 (Go.Proofs.ascii_of_all h.2.2))
 ·cases H
theorem vd (O0:Own c0 G F) (hT:Et c0) (p0 p1:ByteArray) {r:List ByteArray} (H:jx p0 p1=some r):
  Calls Tryz.prog 64 #[.string p0,.string p1] c0.w (aO c0 fun c v=>∃y1:Value,Own c G F∧v=y1∧Sl RS c y1 r):=by
 unfold jx at H
 split at H
 ·rename_i h
  cases H
  obtain ⟨m,hm⟩:=hT.ml
  have hlen:=Lib.splitB_all p1 h.2 0 _ p0 rfl
  have hle:=Lib.countB_le p1 h.2 p0.size p0 (ao _)
  refine (Go.Proofs.Any.strings_Split DN (by kernel_rfl) p0 p1 m c0.w h.1 hm.cell h.2).mono ?_
  rintro e w' ⟨rfl,rfl⟩
  obtain ⟨c',e1,e2,e3,e4⟩:=Own.below O0 ((gV _ c0.w).alloc (ao _) (.cells ((Lib.splitB p1 0 (Lib.countB p0 p1) p0).map Value.string).toArray (rI.t 9)))
  refine ⟨_,c',rfl,e1.symm,e2,_,e3,rfl,_,_,by rw [hlen],by rw [hlen]; exact ao _,by unfold maxLen; omega,fun i x hx=>⟨_,_,[.string x],rfl,rfl,fun j u hu=>?_⟩⟩
  cases j with
  | succ j=>simp at hu
  | zero=>
   simp only [fj,az] at hu
   subst hu
   refine e4 _ _ _ (ao _) ?_
   rw [fg _ _ _ _ _ _ (qv c0.w _),bj,dx]
   rw [show 0+i * RS.size+0=i by show 0+i * 1+0=i; omega,hx]
   rfl
 ·cases H
theorem dt (O0:Own c0 G F) (hT:Et c0) (p0:Int) {r:ByteArray} (H:bu p0=some r):
  Calls Tryz.prog 34 #[.int .i64 p0] c0.w (aO c0 fun c v=>Own c G F∧v= .string r):=by
 unfold bu at H
 split at H
 ·rename_i h
  cases H
  refine lq O0 ((Go.Proofs.Any.strconv_Itoa FC p0 h.1 h.2 c0.w hT.tb).mono ?_)
  rintro e w' ⟨rfl,k,os,rfl⟩
  refine ⟨rfl,⟨rfl,rfl,rfl,?_,fun k hk=>?_⟩⟩
  ·simp
  ·simp [Go.Sort.grow,World.drewN,Array.getElem?_append,hk]
 ·cases H
theorem wN (O0:Own c0 G F) (hT:Et c0) (p0:ByteArray) {r:Int×Er} (H:jX p0=some r): Calls Tryz.prog 138 #[.string p0] c0.w (aO c0 fun c v=>∃y1:Value,Own c G F∧v= .tuple #[.int .i64 r.1,y1]∧RE 318 126 c y1 r.2):=by
 unfold jX at H;split at H
 ·rename_i h;obtain ⟨n,hn,rfl⟩:=Option.map_eq_some_iff.1 H;refine (lq O0 (v:= .tuple #[.int .i64 n,.nilIface]) ((Go.Proofs.Any.strconv_Atoi FF p0 n h hn c0.w).mono ?_)).mono ?_
  ·rintro e w' ⟨rfl,t,rfl⟩;exact ⟨rfl,ur _ _ _⟩
  ·rintro e w' ⟨v,c,h1,h2,h3,h4,h5⟩;exact ⟨v,c,h1,h2,h3,.nilIface,h4,h5,rfl⟩
 ·cases H
theorem lW (O0:Own c0 G F) (hT:Et c0) {v1:Value} (p0:List ByteArray) (p1:ByteArray) (h1:Sl RS c0 v1 p0) {r:ByteArray} (H:fJ p0 p1=some r):
  Calls Tryz.prog 53 #[v1,.string p1] c0.w (aO c0 fun c v=>Own c G F∧v= .string r):=by
 unfold fJ at H
 split at H
 ·rename_i h
  cases H
  obtain ⟨a,cap,rfl,g1,g2,g4⟩:=h1
  cases p0 with
  | nil=>
   refine lq O0 ((Go.Proofs.Any.strings_Join_none As vZ a cap p1 c0.w).mono ?_)
   rintro e w' ⟨rfl,rfl⟩
   exact ⟨rfl,gV _ _⟩
  | cons x t=>
   obtain ⟨b,off,_,rfl,_,_⟩:=g4 0 x rfl
   refine lq O0 (Go.Proofs.Any.strings_Join As vZ b off cap (x :: t) p1 c0.w (fun i y hy=>?_) ?_ h.1 g1 h.2)
   ·obtain ⟨b',off',l,e,hl,hc⟩:=g4 i y hy
    cases e
    have:=(hc 0 _ (by rw [show l= [.string y] from hl]; rfl)).cell
    rwa [show off+i * RS.size+0=off+i by show off+i * 1+0=off+i; omega] at this
   ·obtain ⟨b',off',l,e,hl,hc⟩:=g4 0 x rfl
    cases e
    exact (hc 0 _ (by rw [show l= [.string x] from hl]; rfl)).lt
 ·cases H
end
end Go.Proofs.YtceciacilfhmjaaGreatDoor
namespace Go.Proofs.YtceciacilfhmjaaGreatDoor
open Go Go.Lt
set_option maxRecDepth 10000
set_option linter.unusedVariables false
attribute [local irreducible] W WL AC
def I5:List Int:=[0,1,56,2,57,49,28,3,61,58,42,50,38,29,17,4,62,47,59,36,45,43,51,22,53,39,33,30,24,18,12,5,63,55,48,27,60,41,37,16,46,35,44,21,52,32,23,11,54,26,40,15,34,20,31,10,25,14,19,9,13,8,7,6]
def Tb6 (c:Cx):Prop:=∀j x,I5[j]? = some x→Im c 14 j (.int .u8 x)
theorem Tb6.mono {c c':Cx} (h:Tb6 c) (k:c.le c'):Tb6 c':=fun j x hx=>(h j x hx).mono k
theorem Tb6.m {c c':Cx} (h:Tb6 c) (k:c.le c':=by repeat (first | assumption | refine Cx.le.trans ?_ (by assumption))):Tb6 c':=h.mono k
open Tryz
def jo (p0:Int):Option Int:=if p0=16 then some 4 else none
theorem pM {c0:Cx} {G:Gm} {F:List En} (O0:Own c0 G F) (hB:Tb6 c0) (p0:Int) {r:Int} (H:jo p0=some r):
  Calls Tryz.prog 204 #[.int .u64 p0] c0.w (aO c0 fun c v=>Own c G (F)∧v= .int .i64 r):=by
 unfold jo at H
 split at H
 ·rename_i h0
  subst h0
  cases H
  refine enter (l:=[.int .u64 16]) func204 rfl rfl rfl ?_
  refine sr ?_
  refine va (.int .i64 0) ?_
  refine wln ?_
  refine W.seq ?_
  refine sr ?_
  refine va (.int .u64 16) ?_
  refine va (.bool false) ?_
  refine wln ?_
  refine W.cond (t:=false) (by kernel_rfl) (fun h1=>by cases h1) (fun h1=>?_)
  refine W.skip ?_
  refine nrm ?_
  refine sr ?_
  refine va (.int .u64 16) ?_
  refine va (.int .u64 16) ?_
  refine va (.int .u64 18446744073709551600) ?_
  refine va (.int .u64 16) ?_
  refine va (.int .u64 4573923408821661840) ?_
  refine va (.int .u64 15) ?_
  have h2:idx I5 15=some 4:=by decide
  refine WL.val0 (v:= .pointer (some ⟨14,15,none⟩)) rfl (by kernel_rfl) ?_
  refine WL.val0 (v:= .int .u8 4) rfl (rx (by kernel_rfl) (xW u_5 rfl (hB 15 4 rfl))) ?_
  refine va (.int .i64 4) ?_
  refine va (.int .i64 4) ?_
  refine wln ?_
  refine W.ret ?_
  exact Dx (v:= .int .i64 4) rfl (by kernel_rfl) ⟨_,c0,rfl,rfl,Cx.le.refl _,O0,rfl⟩
 ·cases H
end Go.Proofs.YtceciacilfhmjaaGreatDoor
namespace Go.Proofs.YtceciacilfhmjaaGreatDoor
open Go Go.Lt
set_option maxRecDepth 10000
set_option linter.unusedVariables false
attribute [local irreducible] W WL AC
def fK (p0:List Int):Option (List Int):=app [] p0
theorem wO {c0:Cx} {G:Gm} {F:List En} {v1:Value} (O0:Own c0 G F) (p0:List Int) (h1:Sl (RI .i32) c0 v1 p0) {r:List Int} (H:fK p0=some r):
  Calls Tryz.prog 157 #[v1] c0.w (aO c0 fun c v=>∃y1:Value,∃y2:List Value,Own c G (es true (RI .i32) y1 21 y2 r :: F)∧v=y1∧OA (RI .i32) c y1 y2 r):=by
 unfold fK at H
 have hS:=h1
 obtain ⟨a,cap,rfl,h2,h3,h4⟩:=h1
 refine enter (l:=[.slice a p0.length cap]) Tryz.func157 rfl rfl rfl ?_
 refine W.seq ?_
 refine W.region ?_
 refine WL.val0 (v:= .slice none 0 0) rfl (by kernel_rfl) ?_
 refine WL.nil ?_
 refine nrm ?_
 cases a with
 | none=>
  obtain rfl:p0= []:=by
   cases p0 with
   | nil=>rfl
   | cons x t=>
    obtain ⟨b,off,l,e,_⟩:=h4 0 x rfl
    cases e
  obtain rfl:r= []:=by simpa [app] using H.symm
  refine W.seq ?_
  refine W.seq ?_
  refine W.region ?_
  refine WL.val0 (v:= .slice none 0 cap) rfl (by kernel_rfl) ?_
  refine WL.val0 (v:= .bool true) rfl (by kernel_rfl) ?_
  refine WL.nil ?_
  refine nrm ?_
  refine W.cond (t:=true) (by kernel_rfl) (fun _=>?_) (fun h=>by cases h)
  refine W.seq ?_
  refine W.region ?_
  refine WL.val0 (v:= .slice none 0 0) rfl (by kernel_rfl) ?_
  refine WL.nil ?_
  refine nrm ?_
  refine W.ret ?_
  refine thr ?_
  have O1:=O0.addHole (e:=es true (RI .i32) (.slice none 0 0) 21 [] ([]:List Int)) rfl
  exact Dx (v:= .slice none 0 0) rfl (by kernel_rfl) ⟨_,c0,rfl,rfl,Cx.le.refl _,_,_,O1,rfl,OA.nil (aI _)⟩
 | some ad=>
  refine W.seq ?_
  refine W.seq ?_
  refine W.region ?_
  refine WL.val0 (v:= .slice (some ad) p0.length cap) rfl (by kernel_rfl) ?_
  refine WL.val0 (v:= .bool false) rfl (by kernel_rfl) ?_
  refine WL.nil ?_
  refine nrm ?_
  refine W.cond (t:=false) (by kernel_rfl) (fun h=>by cases h) (fun _=>?_)
  refine W.skip ?_
  refine nrm ?_
  refine W.seq ?_
  refine W.region ?_
  refine WL.mem rfl (Own.sl (R:=RI .i32) (E:=21) (ls:=[]) (vs:=[]) (xs:=([]:List Int)) true O0 (aI _) rfl trivial (by kernel_rfl) (by kernel_rfl)) ?_
  rintro v5 c1 l1 ⟨u1,O1,a1⟩
  refine WL.val0 (v:= .slice (some ad) p0.length cap) rfl (by kernel_rfl) ?_
  refine WL.mem rfl (Own.app (R:=RI .i32) (z:= .int .i32 0) (by_:=4) (ty:=102) 0 O1 rfl a1 (hS.mono l1) H Tryz.underlying102 (by kernel_rfl) rfl (by kernel_rfl) (by kernel_rfl)) ?_
  rintro v6 c2 l2 ⟨u2,O2,a2⟩
  refine WL.val0 (v:=v6) rfl (by kernel_rfl) ?_
  refine WL.nil ?_
  refine nrm ?_
  refine W.ret ?_
  exact Dx (v:=v6) rfl (by kernel_rfl) ⟨_,c2,rfl,rfl,l1.trans l2,_,_,O2,rfl,a2⟩
def qA (p0:Int) (p1:Er):Option Er:=some (.fault p0 p1)
theorem uS {c0:Cx} {G:Gm} {F:List En} {v2:Value} (O0:Own c0 G F) (p0:Int) (p1:Er) (h1:RE 318 126 c0 v2 p1) {r:Er} (H:qA p0 p1=some r): Calls Tryz.prog 93 #[.int .i64 p0,v2] c0.w (aO c0 fun c v=>∃y1:Value,Own c G F∧v=y1∧RE 318 126 c y1 r):=by
 obtain rfl:=aH H;refine enter (l:=[.int .i64 p0,v2]) Tryz.func93 rfl rfl rfl ?_;refine W.seq ?_;refine W.region ?_;refine WL.val0 (v:= .nilIface) rfl (by kernel_rfl) ?_;refine WL.nil ?_;refine nrm ?_;refine W.seq ?_;refine W.region ?_;refine WL.val0 (v:= .int .i64 p0) rfl (by kernel_rfl) ?_;refine WL.val0 (v:=v2) rfl (by kernel_rfl) ?_;refine WL.val0 (v:= .agg #[.int .i64 p0,v2]) rfl (by rcases h1.cs3 with rfl | ⟨t,a,rfl⟩ <;> kernel_rfl) ?_;refine WL.mem rfl (Own.bx (T:=130) (vs:=[.int .i64 p0,v2]) O0 (by kernel_rfl)) ?_;rintro v5 c1 l1 ⟨b,rfl,O1,hm⟩;refine WL.val0 (v:= .iface 126 (.pointer (some ⟨b,0,none⟩))) rfl (by kernel_rfl) ?_;refine WL.val0 (v:= .iface 126 (.pointer (some ⟨b,0,none⟩))) rfl (by kernel_rfl) ?_;refine WL.nil ?_;refine nrm ?_;refine W.ret ?_;exact Dx (v:= .iface 126 (.pointer (some ⟨b,0,none⟩))) rfl (by kernel_rfl) ⟨_,c1,rfl,rfl,l1,_,O1,rfl,_,_,rfl,hm 0 _ rfl,hm 1 _ rfl,h1.mono l1⟩
theorem vg {c0:Cx} {G:Gm} {F:List En} {e0:En} {b j n:Nat} {p0:List Int} (O0:Own c0 G (e0 :: F)) (hb:blk e0.v=some b) (hn:p0.length=n) (hv:∀m u,(p0.map (.int .i32))[m]? = some u→e0.vs[j+m]? = some u) {r:List Int} (H:fK p0=some r):
  Calls Tryz.prog 157 #[.slice (some ⟨b,j,none⟩) n 16] c0.w (aO c0 fun c v=>∃y1:Value,∃y2:List Value,Own c G (es true (RI .i32) y1 21 y2 r :: e0 :: F)∧v=y1∧OA (RI .i32) c y1 y2 r):=by
 unfold fK at H
 subst hn
 refine enter (l:=[.slice (some ⟨b,j,none⟩) p0.length 16]) Tryz.func157 rfl rfl rfl ?_
 refine W.seq ?_
 refine W.region ?_
 refine WL.val0 (v:= .slice none 0 0) rfl (by kernel_rfl) ?_
 refine WL.nil ?_
 refine nrm ?_
 refine W.seq ?_
 refine W.seq ?_
 refine W.region ?_
 refine WL.val0 (v:= .slice (some ⟨b,j,none⟩) p0.length 16) rfl (by kernel_rfl) ?_
 refine WL.val0 (v:= .bool false) rfl (by kernel_rfl) ?_
 refine WL.nil ?_
 refine nrm ?_
 refine W.cond (t:=false) (by kernel_rfl) (fun h=>by cases h) (fun _=>?_)
 refine W.skip ?_
 refine nrm ?_
 refine W.seq ?_
 refine W.region ?_
 refine WL.mem rfl (Own.sl (R:=RI .i32) (E:=21) (ls:=[]) (vs:=[]) (xs:=([]:List Int)) true O0 (aI _) rfl trivial (by kernel_rfl) (by kernel_rfl)) ?_
 rintro v5 c1 l1 ⟨u1,O1,a1⟩
 refine WL.val0 (v:= .slice (some ⟨b,j,none⟩) p0.length 16) rfl (by kernel_rfl) ?_
 have hon:=O1.on 1 rfl
 refine WL.mem rfl (Own.appSrc (R:=RI .i32) (nw:=p0.map (.int .i32)) (ua:=some ⟨b,j,none⟩) (ucap:=16) (z:= .int .i32 0) (by_:=4) (ty:=102) 0 O1 rfl a1 (by rw [aQ]; exact (Dc _).symm) (fun _=>⟨b,j,rfl,fun m u hu=>(hon.cell hb (j+m)).trans (hv m u hu)⟩) (fun w hw=>by
  obtain ⟨x,_,rfl⟩:=List.mem_map.1 hw
  rfl) (fun i x hx=>by
  show ((p0.map (Value.int .i32)).drop (i * 1)).take 1= [.int .i32 x]
  have hlt:=(List.getElem?_eq_some_iff.1 hx).1
  have he:=(List.getElem?_eq_some_iff.1 hx).2
  rw [Dc,mu (by rw [aQ]; exact hlt),Lg,mh,dv,he]) H Tryz.underlying102 (by kernel_rfl) rfl (by kernel_rfl) (by kernel_rfl)) ?_
 rintro v6 c2 l2 ⟨u2,O2,a2⟩
 refine WL.val0 (v:=v6) rfl (by kernel_rfl) ?_
 refine WL.nil ?_
 refine nrm ?_
 refine W.ret ?_
 exact Dx (v:=v6) rfl (by kernel_rfl) ⟨_,c2,rfl,rfl,l1.trans l2,_,_,O2,rfl,a2⟩
end Go.Proofs.YtceciacilfhmjaaGreatDoor
namespace Go.Lt
section
variable {P:Program} {k et t:TypeId} {c:Cx} {G:Gm} {F:List En} {ρ:Operand→Value} {o:Oper}
abbrev eS (b cl:Nat) (es:List MapEntry):En:=⟨.map (some b),cl,mkE es,0⟩
theorem F7 (b cl:Nat) (es:List MapEntry):(eS b cl es).ob= .map es.toArray cl:=by simp [En.ob,mp,Cy]
theorem Own.mkP (O:Own c G F) (hx:execOp ρ o=(do pure (Next.value (←Instr.makeMap t none)):Sem Next)):
  ∃v c',(execOp ρ o).run P c.w= .ok (.value v) c'.w∧c.le c'∧∃b,v= .map (some b)∧Own c' G (eS b 0 [] :: F):=by
 have hr:(execOp ρ o).run P c.w= .ok (.value (.map (some c.w.heap.size))) (c.w.alloc (.map #[] 0)):=rx hx rfl
 let c':Cx:=⟨c.w.alloc (.map #[] 0),fun k p=>(k < c.w.heap.size∧c.A k p)∨k=c.w.heap.size,c.t⟩
 have hold:∀k,k < c.w.heap.size→c'.w.heap[k]? = c.w.heap[k]? :=fun k hk=>bM _ _ _ hk;have hcell:∀k o,k < c.w.heap.size→c'.w.cell? ⟨k,o,none⟩=c.w.cell? ⟨k,o,none⟩:=fun k o hk=>bZ (w:=c.w) (a:=⟨k,o,none⟩) (hold k hk);have hb:c.but (fun _=>False) c':=⟨⟨rfl,rfl,by simp [c'],fun k p hk hA=>⟨hcell k p hk,by rintro (h | h); exact hA h.2; omega⟩,fun k hk _=>hold k hk,fun a ha _=>by simp only [World.frozen?,hold _ ha],fun _ _ _ h=>h⟩,rfl,
  fun k hk _=>⟨hold k hk,fun p=>⟨by rintro (h | h); exact h.2; omega,fun h=> .inl ⟨hk,h⟩⟩⟩⟩
 have hnew:c'.w.heap[c.w.heap.size]? = some (.map #[] 0):=qv c.w _;refine ⟨_,c',hr,hb.le,c.w.heap.size,rfl,O.cons hb (fun _=>id) (fun b hb=>?_) (fun b hb=>?_)⟩
 ·simp only [bk,az] at hb;subst hb;exact ⟨hnew,fun o=>⟨fun _=>cR _,fun _=> .inr rfl⟩⟩
 ·simp only [bk,az] at hb; omega
theorem ckS {e:Bool} {s:ByteArray} (hk:P.underlying k=some .string) (w:World):(Instr.checkKey e 10000 k (.string s)).run P w= .ok () w:=by
 rw [show (10000:Nat)=9999+1 from rfl,Instr.checkKey];simp [aY hk]
theorem fkS {s:ByteArray} {es:List MapEntry} {r:Option (Nat×Value)} (hk:P.underlying k=some .string) (hf:Instr.findNow .string (.string s) es 0=some r) (w:World):(Instr.findKey k (.string s) es).run P w= .ok r w:=by
 unfold Instr.findKey;simp [aY hk,hf]
theorem Own.inS {b cl:Nat} {es:List MapEntry} {s:ByteArray} {x:Value} (i:Nat) (O:Own c G F) (hi:F[i]? = some (eS b cl es)) (ht:P.underlying t=some (.map k et)) (hk:P.underlying k=some .string)
  (hf:Instr.findNow .string (.string s) es 0=some none) (hx:execOp ρ o=(do Instr.mapUpdate t (.map (some b)) (.string s) x; pure Next.skip:Sem Next)):
  ∃c',(execOp ρ o).run P c.w= .ok .skip c'.w∧c.le c'∧Own c' G (F.set i (eS b (cl+1) (es++ [⟨.string s,x,cl⟩]))):=by
 have hon:=O.on i hi b rfl;rw [F7] at hon;obtain ⟨hh,hA⟩:=hon;have hlt:=(Array.getElem?_eq_some_iff.1 hh).1;have hr:(Instr.mapUpdate t (.map (some b)) (.string s) x).run P c.w= .ok () (c.w.putObj b (.map (es++ [(⟨.string s,x,cl⟩:MapEntry)]).toArray (cl+1))):=by
  simp [Instr.mapUpdate,aY ht,aY hk,ckS hk,fkS hk hf,getObj,setObj,Sem.run,hh];rfl
 have same:∀j,j≠b→(c.w.putObj b (.map (es++ [(⟨.string s,x,cl⟩:MapEntry)]).toArray (cl+1))).heap[j]? = c.w.heap[j]? :=fun j hj=>World.putObj_heap_other hj
 let c':Cx:=⟨c.w.putObj b (.map (es++ [(⟨.string s,x,cl⟩:MapEntry)]).toArray (cl+1)),c.A,c.t⟩
 have hbut:c.but (fun k=>k=b) c':=by
  refine ⟨⟨rfl,rfl,by simp [c',World.putObj],fun j o hj hn=>⟨bZ (w:=c.w) (a:=⟨j,o,none⟩) (same j ?_),hn⟩,fun j hj hn=>same j ?_,fun a ha hn=>?_,fun _ _ _ h=>h⟩,rfl,fun j hj hjb=>⟨same j hjb,fun _=>oD⟩⟩
  ·rintro rfl;exact hn ((hA o).2 (cR _))
  ·rintro rfl;exact hn 0 ((hA 0).2 (cR _))
  ·by_cases e:a.block=b
   ·exact absurd ((hA a.off).2 (cR _)) (by rw [←e]; exact hn)
   ·show (c.w.putObj b _).frozen? a=_;unfold World.frozen?;rw [same _ e]
 refine ⟨c',by rw [hx]; exact rs hr,hbut.le,O.set i hi hbut (fun b' h'=>by subst h'; rfl) (fun b' h'=>?_) (fun b' h'=> .inl h')⟩;simp only [bk,az] at h';subst h';rw [F7];exact ⟨World.putObj_heap_same hlt,hA⟩
theorem KC {b cl:Nat} {es:List MapEntry} {s:ByteArray} {z:Value} {r:Option (Nat×Value)} (hon:(eS b cl es).on c) (ht:P.underlying t=some (.map k et)) (hk:P.underlying k=some .string)
  (hz:(zeroValue et).run P c.w= .ok z c.w) (hf:Instr.findNow .string (.string s) es 0=some r):
  (Instr.lookup t (.map (some b)) (.string s) true).run P c.w= .ok (.tuple #[(r.map (·.2)).getD z,.bool r.isSome]) c.w:=by
 have hh:=(hon b rfl).1;rw [F7] at hh
 cases r with
 | none=>simp [Instr.lookup,aY ht,aY hk,ckS hk,fkS hk hf,getObj,Sem.run,hh,hz]
 | some r=>simp [Instr.lookup,aY ht,aY hk,ckS hk,fkS hk hf,getObj,setObj,Sem.run,hh]
end
end Go.Lt
namespace Go.Proofs.YtceciacilfhmjaaGreatDoor
open Go Go.Lt
set_option maxRecDepth 10000
set_option linter.unusedVariables false
attribute [local irreducible] W WL AC
open Tryz
variable {c0 c:Cx} {G:Gm} {F:List En}
def wb:Go.Shelf.Ren:=⟨fun | 0=>0 | 1=>1 | 2=>2 | 99=>20 | 101=>31 | 103=>136 | 119=>258 | 120=>231 | 129=>160 | 137=>135 | 138=>134 | 143=>26 | 146=>64 | 151=>206 | 152=>230 | 156=>53 | 160=>137 | 165=>90 | 166=>8 | 169=>10 | 171=>34 | 172=>138 | 173=>85 | 195=>164 | 197=>25 | 205=>234 | 206=>38 | 208=>54 | 210=>166 | 217=>79 | 218=>165 | 219=>45 | 221=>98 | 224=>81 | 225=>80 | 227=>169 | 228=>205 | 231=>167 | 232=>168 | 233=>170 | 234=>171 | 235=>172 | 236=>173 | 240=>14 | 241=>123 | 243=>61 | 244=>174 | 245=>175 | 246=>96 | 247=>208 | 260=>44 | 266=>119 | 267=>82 | 268=>133 | 271=>207 | 276=>27 | 277=>158 | 279=>209 | 280=>210 | 281=>211 | 282=>212 | 283=>129 | 284=>130 | 285=>131 | 286=>132 | 287=>232 | 314=>120 | 316=>233 | 317=>159 | 318=>161 | 319=>162 | 320=>163 | 321=>259 | 322=>260 | 337=>203 | 338=>204 | 347=>273 | 348=>274 | 349=>275 | 350=>276 | 351=>277 | 352=>278 | 353=>279 | 354=>280 | 355=>281 | 356=>282 | 357=>283 | 358=>284 | 359=>285 | 360=>288 | 361=>289 | 362=>290 | 363=>311 | 364=>308 | 365=>309 | 366=>296 | 367=>332 | n=>n,fun | 0=>0 | 1=>1 | 2=>2 | 3=>3 | 4=>4 | 5=>5 | 6=>6 | 7=>7 | 8=>8 | 9=>9 | 10=>10 | 11=>11 | 12=>12 | 13=>13 | 14=>14 | 15=>15 | 16=>16 | 17=>17 | 18=>18 | 19=>19 | 20=>20 | 21=>21 | 22=>24 | 23=>77 | 24=>200 | 25=>201 | 27=>68 | 28=>112 | 31=>83 | 37=>31 | 39=>188 | 40=>150 | 41=>271 | 43=>86 | 46=>139 | 47=>232 | 48=>249 | 49=>347 | 51=>183 | 52=>270 | 53=>193 | 54=>194 | 55=>143 | 57=>156 | 61=>118 | 63=>272 | 64=>294 | 67=>107 | 69=>23 | 70=>30 | 71=>32 | 72=>33 | 73=>148 | 74=>37 | 75=>38 | 76=>39 | 77=>40 | 80=>41 | 81=>84 | 83=>82 | 84=>146 | 85=>274 | 86=>275 | 103=>233 | 104=>65 | 105=>66 | 106=>67 | 108=>299 | 111=>179 | 112=>322 | 113=>155 | 114=>117 | 115=>235 | 116=>236 | 117=>237 | 118=>238 | 119=>138 | 122=>234 | 123=>239 | 124=>240 | 127=>51 | 128=>241 | 131=>159 | 137=>140 | 138=>141 | 139=>142 | 143=>318 | 144=>319 | 145=>320 | 146=>184 | 150=>199 | 151=>185 | 164=>69 | 165=>70 | 166=>228 | 167=>273 | 168=>276 | 169=>277 | 170=>278 | 171=>192 | 172=>195 | 173=>196 | 174=>197 | 175=>295 | 176=>296 | 209=>297 | 210=>298 | 211=>229 | 212=>230 | 213=>231 | 214=>317 | 232=>292 | 233=>293 | 238=>329 | 239=>330 | 240=>331 | 241=>332 | 242=>333 | 243=>335 | 244=>168 | 245=>336 | 246=>337 | 247=>338 | 248=>339 | 249=>340 | n=>n,fun | 1=>10 | 3=>8 | 4=>9 | 15=>15 | 16=>16 | 17=>12 | 18=>13 | 19=>14 | n=>n⟩
theorem FD:Lays.n240 Tryz.prog wb:=by
 constructor <;> first | kernel_rfl | (intro w; kernel_rfl) | (constructor <;> first | kernel_rfl | (intro w; kernel_rfl))
theorem Av:Go.Proofs.Builder.X72 Tryz.prog wb:=by
 constructor <;> first | kernel_rfl | decide
def Bu (v:Value) (vs:List Value) (bs:List UInt8):Prop:=
 (v= .slice none 0 0∧bs= [])∨∃g cap,v= .slice (some ⟨g,0,none⟩) bs.length cap∧0 < bs.length∧bs.length≤cap∧cap≤maxLen∧cap≤vs.length∧vs.take bs.length=Lib.byteCells bs
abbrev eU (b:Nat) (p v:Value) (vs:List Value):List En:=[⟨.pointer (some ⟨b,0,none⟩),33,[p,v],0⟩,⟨v,5,vs,0⟩]
theorem GE (l:List UInt8) (s:ByteArray):Lib.byteCells (l++s.data.toList)=Lib.byteCells l++Lib.strCells s:=by simp [Lib.byteCells,Lib.strCells]
theorem KF:((Tryz.prog).info? 5).map (fun i=>(i.zero,i.size,i.bytes))=some (some (.int .u8 0),1,1):=by kernel_rfl
theorem Own.apS {v:Value} {vs:List Value} {bs:List UInt8} (k:Nat) (O:Own c G F) (hk:F[k]? = some ⟨v,5,vs,0⟩) (h:Bu v vs bs) (s:ByteArray) (hl:bs.length+s.size≤140737488355328) (ty:TypeId):
  ∃v' c',(Builtin.append_ #[31,9] ty #[v,.string s]).run Tryz.prog c.w= .ok v' c'.w∧c.le c'∧∃vs',Own c' G (F.set k ⟨v',5,vs',0⟩)∧Bu v' vs' (bs++s.data.toList):=by
 obtain ⟨i,hi,hz⟩:=Option.map_eq_some_iff.1 KF;simp only [gE] at hz;obtain ⟨z1,z2,z3⟩:=hz;have ht:=underlying31;have hu:=underlying9;have hon:=O.on k hk;have hss:s.data.toList.length=s.size:=rfl;have hN:(bs++s.data.toList).length=bs.length+s.size:=by rw [ag,hss]
 have fresh:∀(arr:Array Value) (cap:Nat),0 < bs.length+s.size→bs.length+s.size≤cap→cap≤maxLen→cap≤arr.size→arr.toList.take (bs.length+s.size)=Lib.byteCells (bs++s.data.toList)→
   ∃c',c'.w=c.w.drew.alloc (.cells arr 5)∧c.le c'∧∃vs',Own c' G (F.set k ⟨.slice (some ⟨c.w.heap.size,0,none⟩) (bs.length+s.size) cap,5,vs',0⟩)∧Bu (.slice (some ⟨c.w.heap.size,0,none⟩) (bs.length+s.size) cap) vs' (bs++s.data.toList):=fun arr cap h0 h1 h2 h3 h4=>by
  have hd:=Cx.drew_le c;obtain ⟨c',e1,e2,e3,e4,e5⟩:=Cx.new ⟨c.w.drew,c.A,c.t⟩ arr.toList 5 0;refine ⟨c',by rw [e1],hd.le.trans e2.le,arr.toList,?_,.inr ⟨_,cap,by rw [hN],by omega,by omega,h2,by simpa using h3,by rw [hN]; exact h4⟩⟩;refine Own.set (O.keep hd) k hk e2 (fun b h=>h.elim) (fun b hb=>?_) (fun b hb=>?_)
  ·simp only [bk,az] at hb;subst hb;exact ⟨e3,e5⟩
  ·simp only [bk,az] at hb;subst hb;exact .inr (ao _)
 rcases h with ⟨rfl,rfl⟩ | ⟨g,cap,rfl,hb0,hnc,hcm,hcs,htk⟩
 ·by_cases hs:s.size=0
  ·refine ⟨.slice none 0 0,c,?_,Cx.le.refl c,vs,?_,?_⟩
   ·have hf:=Lib.run_firstCells_string (P:=Tryz.prog) c.w 1 s;have hn:Lib.strCells s= []:=aW (by rw [Lib.strCells_length]; exact hs);rw [hs,hn] at hf;simp [Builtin.append_,aY ht,aY hu,sizeOf,typeInfo,hi,z2,Builtin.lenOf,hs,hf]
   ·have:F.set k ⟨.slice none 0 0,5,vs,0⟩=F:=by
     apply dy;intro j;by_cases hj:k=j
     ·subst hj; rw [be (List.getElem?_eq_some_iff.1 hk).1,hk]
     ·rw [aT hj]
    rw [this]; exact O
   ·have:s.data.toList= []:=aW hs;rw [this];exact .inl ⟨rfl,rfl⟩
  ·have hr:=run_append_nil_string (P:=Tryz.prog) c.w 31 9 ty 5 i (.int .u8 0) ht hu hi z1 s (by omega) (by simp at hl; omega) (by rw [z3]; simp at hl; omega);have hge:=wA c.w s.size 0 5;have hcm:=nf c.w s.size 0 5 (by unfold maxLen; simp at hl; omega);obtain ⟨c',e1,e2,e3⟩:=fresh (s.data.map (fun b=>Value.int .u8 b.toNat)++Builtin.zeroCells (Value.int .u8 0).cells (grownCap c.w s.size 0 5 - s.size)) (grownCap c.w s.size 0 5) (by simp; omega) (by simpa using hge) hcm (by
    have hz:(Value.int IntKind.u8 0).cells.size=1:=rfl;have hsz:s.data.size=s.size:=rfl;simp only [LS,Array.size_map,size_zeroCells,hz,hsz];omega) (by
    have hsz:s.data.toList.length=s.size:=rfl;simp only [xK,Cn,aB,ep,bq];rw [Es (by rw [aQ,hsz])];rfl)
   simp only [aB,ep] at e3 hr;exact ⟨_,c',by rw [hr,e1],e2,e3⟩
 ·have hcell:=(hon.ce (b:=g) rfl).1;by_cases hroom:bs.length+s.size≤cap
  ·have hr:=Lib.run_append_room_string (P:=Tryz.prog) c.w 31 9 ty 5 i ht hu hi z2 g bs.length cap vs.toArray hcell s hroom (by simp; omega);simp only at hr;obtain ⟨c',e1,e2,e3,e4⟩:=Cx.row (m:=vs.take bs.length++Lib.strCells s++vs.drop (bs.length+s.size)) hcell 0 (hon.ce (b:=g) rfl).2 (fun o ho=>absurd ho (Ep _)) 0 (ao _);refine ⟨.slice (some ⟨g,0,none⟩) (bs.length+s.size) cap,c',by rw [hr,e1],e2.le,vs.take bs.length++Lib.strCells s++vs.drop (bs.length+s.size),Own.set O k hk e2 (fun b h=>by rw [h]; rfl) (fun b hb=>?_) (fun b hb=> .inl hb) (e':=⟨.slice (some ⟨g,0,none⟩) (bs.length+s.size) cap,5,vs.take bs.length++Lib.strCells s++vs.drop (bs.length+s.size),0⟩),.inr ⟨g,cap,by rw [hN],by omega,by omega,hcm,?_,?_⟩⟩
   ·simp only [bk,az] at hb; subst hb; exact ⟨e3,e4⟩
   ·simp only [ag,aN,av,Lib.strCells_length];omega
   ·rw [hN,GE,htk];exact Es (by rw [ag,Lib.byteCells_length,Lib.strCells_length])
  ·have holds:∀j w,(Lib.byteCells bs)[j]? = some w→c.w.cell? ((⟨g,0,none⟩:Addr).add j)=some w:=fun j w hw=>by
    rw [dp,ep,fg _ _ _ _ _ _ hcell,bj];rw [←htk,aK] at hw;split at hw
    ·exact hw
    ·cases hw
   have hr:=Lib.run_append_grow_string (P:=Tryz.prog) c.w 31 9 ty 5 i (.int .u8 0) ht hu hi z1 ⟨g,0,none⟩ bs.length cap (Lib.byteCells bs) (by rw [z2,Dc,Lib.byteCells_length]) holds s (by omega) (by omega) (by rw [z3]; exact FT (by omega) (by omega));have hge:=wA c.w (bs.length+s.size) cap 5;have hcm:=nf c.w (bs.length+s.size) cap 5 (by unfold maxLen; omega);obtain ⟨c',e1,e2,e3⟩:=fresh ((Lib.byteCells bs).toArray++(Lib.strCells s).toArray++Builtin.zeroCells (Value.int .u8 0).cells (grownCap c.w (bs.length+s.size) cap 5 - (bs.length+s.size))) (grownCap c.w (bs.length+s.size) cap 5) (by omega) hge hcm (by
    have hz:(Value.int IntKind.u8 0).cells.size=1:=rfl;simp only [LS,nP,size_zeroCells,hz,Lib.byteCells_length,Lib.strCells_length];omega) (by
    simp only [xK];rw [GE];exact Es (by rw [ag,Lib.byteCells_length,Lib.strCells_length]))
   exact ⟨_,c',by rw [hr,e1],e2,e3⟩
theorem Fp {α:Type} {a:Array α} {i:Nat} {x:α} {f g:α→α} (h:a[i]? = some x) (e:f x=g x):a.modify i f=a.modify i g:=by
 apply Array.ext_getElem?;intro j;rw [iV,iV];by_cases hj:i=j
 ·subst hj;rw [af rfl,af rfl,h];simp [e]
 ·rw [ab hj,ab hj]
theorem A7 {b:Nat} {p v:Value} {vs:List Value} (O0:Own c0 G (eU b p v vs++F)) (hp:p= .pointer none∨p=Q b): Calls Tryz.prog 14 #[Q b] c0.w (aO c0 fun c r=>Own c G (eU b (Q b) v vs++F)∧r= .tuple #[]):=by
 have hon:=O0.on 0 rfl;have hc:=hon.ce (b:=b) rfl;rcases hp with rfl | rfl
 ·refine (Go.Proofs.Any.Builder_copyCheck_fresh FD Av b c0.w (hon.cell rfl 0) (by simp [World.shape?,hc.1]; rfl) (by simp [World.frozen?,hc.1])).mono ?_;rintro e w' ⟨rfl,rfl⟩;obtain ⟨c',e1,e2,e3,e4⟩:=Cx.row (m:=[Q b,v]) hc.1 0 hc.2 (fun o ho=>absurd ho (Ep _)) 0 (ao _);refine ⟨_,c',rfl,?_,e2.le,Own.set O0 0 rfl e2 (fun b h=>by subst h; rfl) (fun b' hb=>?_) (fun b hb=> .inl hb) (e':=⟨Q b,33,[Q b,v],0⟩),rfl⟩
  ·rw [e1];simp only [World.setCell,World.setRow];congr 1;exact Fp hc.1 rfl
  ·simp only [bk,az] at hb; subst hb; exact ⟨e3,e4⟩
 ·refine (Go.Proofs.Any.Builder_copyCheck_used FD Av b c0.w (hon.cell rfl 0)).mono ?_;rintro e w' ⟨rfl,rfl⟩;exact ⟨_,c0,rfl,rfl,Cx.le.refl _,O0,rfl⟩
theorem xG {b:Nat} {p v:Value} {vs:List Value} {bs:List UInt8} (O0:Own c0 G (eU b p v vs++F)) (hp:p= .pointer none∨p=Q b) (h:Bu v vs bs) (s:ByteArray) (hl:bs.length+s.size≤140737488355328): Calls Tryz.prog 8 #[Q b,.string s] c0.w (aO c0 fun c r=>∃v' vs',Own c G (eU b (Q b) v' vs'++F)∧Bu v' vs' (bs++s.data.toList)∧r= .tuple #[I (s.size:Int),.nilIface]):=by
 refine en func8 rfl rfl <| sr <| va (I 0) <| va .nilIface <| wln <| sr <| va (Q b) <| cl (A7 O0 hp) ?_;rintro _ c1 k1 ⟨O1,rfl⟩;refine wln <| sr <| va (Q b) <| va (Q b) <| va (Q b) <| va (.pointer (some ⟨b,1,none⟩)) <| vx (le1 1 mZ (O1.on 0 rfl)) <| va (.string s) <| me (X:=fun v' c'=>∃vs',Own c' G ((eU b (Q b) v vs++F).set 1 ⟨v',5,vs',0⟩)∧Bu v' vs' (bs++s.data.toList)) ?_ ?_
 ·obtain ⟨v',c',h1,h2,h3⟩:=Own.apS 1 O1 rfl h s hl 31;exact ⟨v',c',rx (by kernel_rfl) h1,h2,h3⟩
 rintro v' c2 k2 ⟨vs',O2,h2⟩;refine va (Q b) <| va (.pointer (some ⟨b,1,none⟩)) <| md (sC 31 1 v' [Q b,v'] 0 O2 ⟨?_,trivial⟩) ?_
 ·rcases h2 with ⟨rfl,_⟩ | ⟨g,cap,rfl,_⟩ <;> rfl
 rintro c3 k3 O3;refine wln <| sr <| va (.string s) <| va (I (s.size:Int)) <| va (I (s.size:Int)) <| va .nilIface <| wln <| W.ret ?_;exact r2 (v:=I (s.size:Int)) (v':= .nilIface) <| qq c3 ⟨v',vs',O3,h2,rfl⟩
theorem Own.usS {v:Value} {vs:List Value} {bs:List UInt8} (k:Nat) (O:Own c G F) (hk:F[k]? = some ⟨v,5,vs,0⟩) (h:Bu v vs bs) {q:Value} (hq:(v= .slice none 0 0∧q= .pointer none)∨∃g n p,v= .slice (some ⟨g,0,none⟩) n p∧q=Q g) (pt it ty:TypeId) (hp:(Tryz.prog).underlying pt=some (.pointer 5)):
  ∃r c',(Builtin.unsafeString_ #[pt,it] ty #[q,.int .i64 (bs.length:Int)]).run Tryz.prog c.w= .ok r c'.w∧c.le c'∧(r= .string (mkS bs)∧Own c' G (F.set k ⟨.nilIface,0,[],0⟩)):=by
 have hdrop:∀c',c.but (fun b=>bk v=some b) c'→Own c' G (F.set k ⟨.nilIface,0,[],0⟩):=fun c' hb=>Own.set O k hk hb (fun b h=>h) (fun b hb=>by cases hb) (fun b hb=>by cases hb);rcases h with ⟨rfl,rfl⟩ | ⟨g,cap,rfl,hb0,hnc,hcm,hcs,htk⟩
 ·obtain ⟨_,rfl⟩ | ⟨g,n,p,h,_⟩:=hq
  ·exact ⟨_,c,Lib.run_unsafeString_none c.w pt it ty none,Cx.le.refl c,rfl,hdrop c ⟨Cx.le.refl c,rfl,fun _ _ _=>⟨rfl,fun _=>oD⟩⟩⟩
  ·cases h
 ·obtain ⟨h,_⟩ | ⟨g',n,p,h,rfl⟩:=hq
  ·cases h
  cases h;obtain ⟨hcell,hA⟩:=(O.on k hk).ce (b:=g) rfl;have hne:bs≠ []:=fun e=>by rw [e] at hb0; exact absurd hb0 (Nat.lt_irrefl _)
  have hr:=Lib.run_unsafeString_row (P:=Tryz.prog) c.w pt it ty 5 hp (by kernel_rfl) g vs.length (by simp [World.shape?,hcell]) bs hne (by omega) (by unfold maxLen at hcm; omega) (fun j x hx=>by
   rw [dp,ep,fg _ _ _ _ _ _ hcell,bj];have:(Lib.byteCells bs)[j]? = some (.int .u8 x.toNat):=by simp [Lib.byteCells,hx]
   rw [←htk,aK] at this;split at this
   ·exact this
   ·cases this)
  have hoth:∀j,j≠g→(c.w.freeze ⟨g,0,none⟩ bs.length).heap[j]? = c.w.heap[j]? :=fun j hj=>by
   simp [World.freeze,hne,iV,rS hj]
  let c':Cx:=⟨c.w.freeze ⟨g,0,none⟩ bs.length,c.A,c.t⟩
  have hA0:∀o,c.A g o:=fun o=>(hA o).2 (cR _);have hb:c.but (fun b=>bk (.slice (some ⟨g,0,none⟩) bs.length cap)=some b) c':=by
   refine ⟨⟨by simp [c',World.freeze,hne],by simp [c',World.freeze,hne],by simp [c',World.freeze,hne],fun j o hj hn=>⟨bZ (w:=c.w) (a:=⟨j,o,none⟩) (hoth j fun e=>?_),hn⟩,fun j hj hn=>hoth j fun e=>?_,fun a ha hn=>?_,fun _ _ _ h=>h⟩,rfl,fun j hj hjb=>⟨hoth j fun e=>hjb (by rw [e]; rfl),fun _=>oD⟩⟩
   ·subst e; exact hn (hA0 o)
   ·subst e; exact hn 0 (hA0 0)
   ·by_cases e:a.block=g
    ·exact absurd (hA0 a.off) (by rw [←e]; exact hn)
    ·show (c.w.freeze _ _).frozen? a=_;unfold World.frozen?;rw [hoth _ e]
  exact ⟨_,c',hr,hb.le,rfl,hdrop c' hb⟩
theorem Gv {b:Nat} {p v:Value} {vs:List Value} {bs:List UInt8} (O0:Own c0 G (eU b p v vs++F)) (h:Bu v vs bs): Calls Tryz.prog 10 #[Q b] c0.w (aO c0 fun c r=>Own c G F∧r= .string (mkS bs)):=by
 obtain ⟨q,hq,hsd⟩:∃q,((v= .slice none 0 0∧q= .pointer none)∨∃g n p,v= .slice (some ⟨g,0,none⟩) n p∧q=Q g)∧∀ts ty (w:World),(Builtin.unsafeSliceData_ ts ty #[v]).run Tryz.prog w= .ok q w:=by
  rcases h with ⟨rfl,_⟩ | ⟨g,cap,rfl,hb0,hnc,_⟩
  ·exact ⟨_,.inl ⟨rfl,rfl⟩,fun ts ty w=>rfl⟩
  ·exact ⟨_,.inr ⟨g,_,_,rfl,rfl⟩,fun ts ty w=>Lib.run_unsafeSliceData_row _ ts ty _ _ _ (by omega)⟩
 have hln:∀w:World,(Builtin.len_ #[31] 3 #[v]).run Tryz.prog w= .ok (I (bs.length:Int)) w:=fun w=>by
  rcases h with ⟨rfl,rfl⟩ | ⟨g,cap,rfl,_⟩ <;> simp [Builtin.len_,aY mZ,goInt]
 refine en func10 rfl rfl <| sr <| va (.string ⟨#[]⟩) <| wln <| W.seq <| rD [10] (Kp G0 [⟨.pointer (some ⟨b,0,none⟩),33,[p,v],0⟩]) O0 ?_;intro c1 k1 O1;have p1:Kp G0 [⟨.pointer (some ⟨b,0,none⟩),33,[p,v],0⟩] c1:=Kp.cons (O1.on 0 rfl) Kp.nil0;refine ta 0 (Q b) <| ta 1 (Q b) <| ta 2 (.pointer (some ⟨b,1,none⟩)) <| tkx 3 p1 (fun c' _ k=>le1 1 mZ (k.on 0 rfl)) ?_;refine tx 4 (s:=Builtin.unsafeSliceData_ #[31] 51 #[v]) (fun c' _=>hsd _ _ _) ?_;refine ta 5 (Q b) <| ta 6 (Q b) <| ta 7 (.pointer (some ⟨b,1,none⟩)) <| tkx 8 p1 (fun c' _ k=>le1 1 mZ (k.on 0 rfl)) ?_;refine tx 9 (fun c' _=>hln c'.w) <| o1 10 <| gm 10 (X:=fun r c'=>r= .string (mkS bs)∧Own c' G ((eU b p v vs++F).set 1 ⟨.nilIface,0,[],0⟩)) ?_ ?_
 ·obtain ⟨r,c',h1,h2,h3⟩:=Own.usS 1 O1 rfl h hq 51 3 9 underlying51;exact ⟨r,c',rx (by kernel_rfl) h1,h2,h3⟩
 rintro _ c2 k2 ⟨rfl,O2⟩;refine ⟨.inl rfl,ta 11 (.string (mkS bs)) <| dn <| nrm <| W.ret ?_⟩;exact r1 (v:= .string (mkS bs)) <| qq c2 ⟨O2.sD 2 [],rfl⟩
end Go.Proofs.YtceciacilfhmjaaGreatDoor
namespace Go.Proofs.YtceciacilfhmjaaGreatDoor
open Go Go.Lt
set_option maxRecDepth 10000
set_option linter.unusedVariables false
attribute [local irreducible] W WL AC
open Go.RowKit Go.Extern.Stop Go.Stop Go.Extern
theorem zy (t:Addr) (w:World):(ReflectliteValue.unpack (.iface 128 (.pointer (some t)))).run Tryz.prog w
  = .ok (.agg #[.pointer (some ⟨17,128,none⟩),.pointer (some ⟨w.heap.size,0,none⟩),.int .u64 150]) (w.alloc (.cells #[.pointer (some t)] 128)):=by kernel_rfl
theorem Ej (a:Addr) (w:World):(ReflectliteValue.methodAny (ReflectliteValue.valueError "reflectlite.Value.Type" 0) (fun t _ _ _=>ReflectliteType.toType t) #[.agg #[.pointer (some ⟨17,128,none⟩),.pointer (some a),.int .u64 150]]).run Tryz.prog w
  = .ok (.iface 203 (.agg #[.pointer (some ⟨17,128,none⟩)])) w:=by kernel_rfl
theorem xH (h:Value) (w:World):(Go.method 455 203 (.agg #[h]) "Kind").run Tryz.prog w= .ok (287,h) w:=by kernel_rfl
theorem Ek (w:World):((ReflectliteType.abiMethod fun t=>(fun a:Nat=>Value.int IntKind.u8 (a:Int)) <$> Rtype.kind t) #[.pointer (some ⟨17,128,none⟩)]).run Tryz.prog w= .ok (.int .u8 22) w:=by kernel_rfl
theorem El (w:World):((ReflectliteType.abiMethod fun t=>(fun a:Nat=>Value.int IntKind.u8 (a:Int)) <$> Rtype.kind t) #[.pointer (some ⟨17,126,none⟩)]).run Tryz.prog w= .ok (.int .u8 22) w:=by kernel_rfl
theorem GI (z:Sem Value) (f:TypeId→Addr→Nat→Nat→Sem Value) (v:Value):
  ReflectliteValue.method z f #[v]=(do match ←ReflectliteValue.parts v with | none=>z | some (t,a,fl)=>f t a fl (fl % 32)):=rfl
theorem xd (a:Addr) (w:World):(ReflectliteValue.parts (.agg #[.pointer (some ⟨17,128,none⟩),.pointer (some a),.int .u64 150])).run Tryz.prog w= .ok (some (128,a,150)) w:=by kernel_rfl
theorem Cg (a p:Addr) (W:World) (ha:W.cell? a=some (.pointer (some p))):
  (ReflectliteValue.method (ReflectliteValue.valueError "reflectlite.Value.IsNil" 0) ReflectliteValue.isNil #[.agg #[.pointer (some ⟨17,128,none⟩),.pointer (some a),.int .u64 150]]).run Tryz.prog W= .ok (.bool false) W:=by
 rw [GI];simp only [gA,xd,Result.andThen];simp [ReflectliteValue.isNil,loadVar,isAgg,underlying,Tryz.underlying128,ha,Result.andThen]
theorem xI (h:Value) (w:World):(Go.method 455 203 (.agg #[h]) "Elem").run Tryz.prog w= .ok (300,.agg #[h]) w:=by kernel_rfl
theorem ry (h:Value) (w:World):(Go.method 455 203 (.agg #[h]) "Implements").run Tryz.prog w= .ok (301,.agg #[h]) w:=by kernel_rfl
theorem qa (h:Value) (w:World):(Go.method 455 203 (.agg #[h]) "AssignableTo").run Tryz.prog w= .ok (298,.agg #[h]) w:=by kernel_rfl
theorem Em (w:World):(ReflectliteType.method ReflectliteType.elem #[.agg #[.pointer (some ⟨17,128,none⟩)]]).run Tryz.prog w= .ok (.iface 203 (.agg #[.pointer (some ⟨17,126,none⟩)])) w:=by kernel_rfl
theorem vk (w:World):(ReflectliteType.relation "Implements" ReflectliteType.implements_ #[.agg #[.pointer (some ⟨17,126,none⟩)],.iface 203 (.agg #[.pointer (some ⟨17,38,none⟩)])]).run Tryz.prog w= .ok (.bool true) w:=by kernel_rfl
theorem Bb (v:Value) (w:World):(ReflectliteType.typeOf #[.iface 126 v]).run Tryz.prog w= .ok (.iface 203 (.agg #[.pointer (some ⟨17,126,none⟩)])) w:=by kernel_rfl
theorem vm (w:World):(ReflectliteType.relation "AssignableTo" ReflectliteType.assignableTo #[.agg #[.pointer (some ⟨17,126,none⟩)],.iface 203 (.agg #[.pointer (some ⟨17,126,none⟩)])]).run Tryz.prog w= .ok (.bool true) w:=by kernel_rfl
theorem zz (e:Addr) (w:World):(ReflectliteValue.unpack (.iface 126 (.pointer (some e)))).run Tryz.prog w
  = .ok (.agg #[.pointer (some ⟨17,126,none⟩),.pointer (some ⟨w.heap.size,0,none⟩),.int .u64 150]) (w.alloc (.cells #[.pointer (some e)] 126)):=by kernel_rfl
theorem Be (w:World):(Rtype.elem? 128).run Tryz.prog w= .ok (some 126) w:=by kernel_rfl
theorem Ix (p:Addr) (w:World):(ReflectliteValue.mk 126 p ReflectliteValue.flagAddr).run Tryz.prog w= .ok (.agg #[.pointer (some ⟨17,126,none⟩),.pointer (some p),.int .u64 406]) w:=by kernel_rfl
theorem Ch (a p:Addr) (W:World) (ha:W.cell? a=some (.pointer (some p))):
  (ReflectliteValue.method (ReflectliteValue.valueError "reflectlite.Value.Elem" 0) ReflectliteValue.elem #[.agg #[.pointer (some ⟨17,128,none⟩),.pointer (some a),.int .u64 150]]).run Tryz.prog W
   = .ok (.agg #[.pointer (some ⟨17,126,none⟩),.pointer (some p),.int .u64 406]) W:=by
 rw [GI];simp only [gA,xd,Result.andThen];simp [ReflectliteValue.elem,loadVar,isAgg,underlying,Tryz.underlying128,ha,Result.andThen,Be,Ix]
theorem JX (v x:Value):ReflectliteValue.set #[v,x]=(do
  let (some (dst,a,fl),some (src,b,_)):=(←ReflectliteValue.parts v,←ReflectliteValue.parts x)
   | unsupported (.noEntry "extern/(internal/reflectlite.Value).Set.zeroValue")
  if fl / ReflectliteValue.flagAddr % 2==0 then unsupported (.noEntry "extern/(internal/reflectlite.Value).Set.unaddressable")
  let val ←loadVar src b
  if ←Rtype.directlyAssignable dst src then storeVar dst a val
  else if ←Rtype.implements dst src then
   if (←Rtype.kind src)==20 then
    match val with
    | .nilIface=>unsupported (.noEntry "extern/reflectlite: a nil value of one interface type handed on as a value of another")
    | _=>storeVar dst a val
   else storeVar dst a (.iface src val)
  else panicString ("reflectlite.Set: value of type " ++(←Rtype.spelt src)++ " is not assignable to type " ++(←Rtype.spelt dst))
  pure (.tuple #[])):=rfl
theorem Bc (a:Addr) (w:World):(ReflectliteValue.parts (.agg #[.pointer (some ⟨17,126,none⟩),.pointer (some a),.int .u64 406])).run Tryz.prog w= .ok (some (126,a,406)) w:=by kernel_rfl
theorem Cf (a:Addr) (w:World):(ReflectliteValue.parts (.agg #[.pointer (some ⟨17,126,none⟩),.pointer (some a),.int .u64 150])).run Tryz.prog w= .ok (some (126,a,150)) w:=by kernel_rfl
theorem Bf (w:World):(Rtype.directlyAssignable 126 126).run Tryz.prog w= .ok true w:=by kernel_rfl
theorem GH (ta b e:Addr) (old:Value) (W:World) (hb:W.cell? b=some (.pointer (some e))) (ht:W.cell? ta=some old) (hf:W.frozen? ta=false):
  (ReflectliteValue.set #[.agg #[.pointer (some ⟨17,126,none⟩),.pointer (some ta),.int .u64 406],.agg #[.pointer (some ⟨17,126,none⟩),.pointer (some b),.int .u64 150]]).run Tryz.prog W
   = .ok (.tuple #[]) (W.setCell ta (.pointer (some e))):=by
 rw [JX];simp only [gA,Bc,Cf,Result.andThen];simp [ReflectliteValue.flagAddr,loadVar,isAgg,underlying,Tryz.underlying126,hb,Result.andThen,Bf,storeVar,Value.cells,storeCells,Addr.add];rw [run_store Tryz.prog W ta _ _ (by rfl)];simp [ht,hf]
set_option maxHeartbeats 4000000 in
theorem JZ (e t:Addr) (old:Value) (w:World) (hg:w.cell? ⟨11,0,none⟩=some (.iface 203 (.agg #[.pointer (some ⟨17,38,none⟩)]))) (ht0:w.cell? t=some old) (hf0:w.frozen? t=false):
  Calls Tryz.prog 70 #[.iface 126 (.pointer (some e)),.iface 128 (.pointer (some t))] w fun ev w'=>ev= .returned (.bool true)∧w'=((((w.alloc (.cells #[.pointer (some t)] 128)).alloc (.cells #[.pointer (some ⟨17,128,none⟩),.pointer (some ⟨w.heap.size,0,none⟩),.int .u64 150] 163)).alloc (.cells #[.pointer (some ⟨17,128,none⟩),.pointer (some ⟨w.heap.size,0,none⟩),.int .u64 150] 163)).alloc (.cells #[.pointer (some e)] 126)).setCell t (.pointer (some e)):=by
 have h6:= @cI Tryz.prog 102 _ (fun args=>ReflectliteValue.unpack (args.getD 0 (.tuple #[]))) Tryz.func102 (by kernel_rfl) (by kernel_rfl) (by kernel_rfl) (by kernel_rfl);have h7:= @cI Tryz.prog 103 _ (ReflectliteValue.methodAny (ReflectliteValue.valueError "reflectlite.Value.Type" 0) (fun t _ _ _=>ReflectliteType.toType t)) Tryz.func103 (by kernel_rfl) (by kernel_rfl) (by kernel_rfl) (by kernel_rfl);have h8:= @cI Tryz.prog 104 _ (ReflectliteValue.method (ReflectliteValue.valueError "reflectlite.Value.IsNil" 0) ReflectliteValue.isNil) Tryz.func104 (by kernel_rfl) (by kernel_rfl) (by kernel_rfl) (by kernel_rfl);have h27:= @cI Tryz.prog 287 _ (ReflectliteType.abiMethod fun t=>do pure (.int .u8 (←Rtype.kind t))) Tryz.func287 (by kernel_rfl) (by kernel_rfl) (by kernel_rfl) (by kernel_rfl);have h37:= @cI Tryz.prog 300 _ (ReflectliteType.method ReflectliteType.elem) Tryz.func300 (by kernel_rfl) (by kernel_rfl) (by kernel_rfl) (by kernel_rfl);have h38:= @cI Tryz.prog 301 _ (ReflectliteType.relation "Implements" ReflectliteType.implements_) Tryz.func301 (by kernel_rfl) (by kernel_rfl) (by kernel_rfl) (by kernel_rfl);have h10:= @cI Tryz.prog 117 _ ReflectliteType.typeOf Tryz.func117 (by kernel_rfl) (by kernel_rfl) (by kernel_rfl) (by kernel_rfl);have h35:= @cI Tryz.prog 298 _ (ReflectliteType.relation "AssignableTo" ReflectliteType.assignableTo) Tryz.func298 (by kernel_rfl) (by kernel_rfl) (by kernel_rfl) (by kernel_rfl);have h11:= @cI Tryz.prog 139 _ (ReflectliteValue.method (ReflectliteValue.valueError "reflectlite.Value.Elem" 0) ReflectliteValue.elem) Tryz.func139 (by kernel_rfl) (by kernel_rfl) (by kernel_rfl) (by kernel_rfl);have h12:= @cI Tryz.prog 140 _ ReflectliteValue.set Tryz.func140 (by kernel_rfl) (by kernel_rfl) (by kernel_rfl) (by kernel_rfl);have tO:=Bb;have mA:=qa;have a25:=vm;have v25:=zz;have f6:=zy;have f7:=Ej;have mK:=xH;have mE:=xI;have mI:=ry;have k27:=Ek;have k25:=El;have e27:=Em;have i25:=vk;have n8:=Cg ⟨w.heap.size,0,none⟩ t ((w.alloc (.cells #[.pointer (some t)] 128)).alloc (.cells #[.pointer (some ⟨17,128,none⟩),.pointer (some ⟨w.heap.size,0,none⟩),.int .u64 150] 163)) (by simp);have hlt:11 < w.heap.size:=by
  rcases aR 11 w.heap.size with h | h
  ·exact h
  ·simp [World.cell?,kJ h] at hg
 have hg2:((w.alloc (.cells #[.pointer (some t)] 128)).alloc (.cells #[.pointer (some ⟨17,128,none⟩),.pointer (some ⟨w.heap.size,0,none⟩),.int .u64 150] 163)).cell? ⟨11,0,none⟩=some (.iface 203 (.agg #[.pointer (some ⟨17,38,none⟩)])):=by
  rw [gK _ _ ⟨11,0,none⟩ (by simp; omega),gK _ _ ⟨11,0,none⟩ hlt]; exact hg
 have htl:t.block < w.heap.size:=by
  rcases aR t.block w.heap.size with h | h
  ·exact h
  ·simp [World.cell?,kJ h] at ht0
 have el:=Ch ⟨w.heap.size,0,none⟩ t (((w.alloc (.cells #[.pointer (some t)] 128)).alloc (.cells #[.pointer (some ⟨17,128,none⟩),.pointer (some ⟨w.heap.size,0,none⟩),.int .u64 150] 163)).alloc (.cells #[.pointer (some ⟨17,128,none⟩),.pointer (some ⟨w.heap.size,0,none⟩),.int .u64 150] 163)) (by rw [gK _ _ ⟨w.heap.size,0,none⟩ (by simp; omega)]; simp);have st:=GH t ⟨w.heap.size+1+1+1,0,none⟩ e old ((((w.alloc (.cells #[.pointer (some t)] 128)).alloc (.cells #[.pointer (some ⟨17,128,none⟩),.pointer (some ⟨w.heap.size,0,none⟩),.int .u64 150] 163)).alloc (.cells #[.pointer (some ⟨17,128,none⟩),.pointer (some ⟨w.heap.size,0,none⟩),.int .u64 150] 163)).alloc (.cells #[.pointer (some e)] 126))
  (by rw [World.cell?_alloc_at _ _ _ _ (by simp)]; rfl)
  (by rw [gK _ _ t (by simp; omega),gK _ _ t (by simp; omega),gK _ _ t (by simp; omega),gK _ _ t htl]; exact ht0)
  (by rw [nn _ _ t (by simp; omega),nn _ _ t (by simp; omega),nn _ _ t (by simp; omega),nn _ _ t (Nat.ne_of_lt htl)]; exact hf0)
 go_enter Tryz.func70,Tryz.ntmps70
 go_wp2
 refine wp_loop_rounds 1 ?_;rw [rounds_succ]
 go_wp2
 go_ret
 exact ⟨rfl,rfl⟩
structure iG (w w':World) (t:Nat):Prop where
 os:w'.os=w.os
 output:w'.output=w.output
 size:w.heap.size≤w'.heap.size
 block:∀k,k < w.heap.size→k≠t→w'.heap[k]? = w.heap[k]?
 frz:∀a,a.block < w.heap.size→w'.frozen? a=w.frozen? a
theorem iG.one (w:World) (v:Array Value) (T:TypeId) (t:Nat):iG w (w.alloc (.cells v T)) t:=
 ⟨rfl,rfl,by simp,fun k hk _=>bM _ _ _ hk,fun a _=>GP _ _ _ _⟩
theorem iG.set (w:World) (t:Nat) (v:Value):iG w (w.setCell ⟨t,0,none⟩ v) t:=
 ⟨rfl,rfl,by simp [World.setCell],fun k hk hne=>by
  show (w.heap.modify t _)[k]? = _;rw [iV,ab fun h=>hne h.symm],fun a _=>World.frozen?_setCell _ _ _ _⟩
theorem iG.trans {w w' w'':World} {t:Nat} (h:iG w w' t) (k:iG w' w'' t):iG w w'' t:=
 ⟨k.os.trans h.os,k.output.trans h.output,cQ h.size k.size,fun i hi hn=>(k.block i (ei hi h.size) hn).trans (h.block i hi hn),
  fun a ha=>(k.frz a (ei ha h.size)).trans (h.frz a ha)⟩
theorem iG.cell {w w':World} {t:Nat} (h:iG w w' t) {k:Nat} (o:Nat) (hk:k < w.heap.size) (hn:k≠t):w'.cell? ⟨k,o,none⟩=w.cell? ⟨k,o,none⟩:=
 bZ (w:=w) (a:=⟨k,o,none⟩) (h.block k hk hn)
def Eh (c:Cx):Prop:=Im c 11 0 (.iface 203 (.agg #[.pointer (some ⟨17,38,none⟩)]))
theorem Eh.m {c c':Cx} (h:Eh c) (k:c.le c':=by repeat (first | assumption | refine Cx.le.trans ?_ (by assumption))):Eh c':=Im.mono h k
def FP (c:Cx) (u:Value) (e:Er):Prop:=match e with
 | .fault i e=>∃b w,u= .pointer (some ⟨b,0,none⟩)∧Im c b 0 (.int .i64 i)∧Im c b 1 w∧RE 318 126 c w e
 | _=>u= .pointer none
def flt (e:Er):Option (Int×Er):=match e with
 | .fault i e=>some (i,e)
 | _=>none
theorem FP.get {c:Cx} {u:Value} {e:Er} {y:Int×Er} (h:FP c u e) (hy:flt e=some y):∃b w,u= .pointer (some ⟨b,0,none⟩)∧(∀j x,([.int .i64 y.1,w]:List Value)[j]? = some x→Im c b (0+j) x)∧RE 318 126 c w y.2:=by
 cases e with
 | fault i e=>
  cases hy;obtain ⟨b,w,rfl,h2,h3,h4⟩:=h;refine ⟨b,w,rfl,fun j x hx=>?_,h4⟩
  match j,hx with
  | 0,hx=>cases hx; exact h2
  | 1,hx=>cases hx; exact h3
  | j+2,hx=>simp at hx
 | nil=>cases hy
 | sent g=>cases hy
def qz (p0:Er):Option Bool:=match p0 with
 | .nil=>some false
 | .fault _ _=>some true
 | .sent _=>none
theorem Iy (e:Addr) (tb:Nat) (w:World) (hg:w.cell? ⟨11,0,none⟩=some (.iface 203 (.agg #[.pointer (some ⟨17,38,none⟩)]))) (ht0:w.heap[tb]? = some (.cells #[.pointer none] 126 (0,0))):
  Calls Tryz.prog 70 #[.iface 126 (.pointer (some e)),.iface 128 (.pointer (some ⟨tb,0,none⟩))] w fun ev w'=>ev= .returned (.bool true)∧w'.heap[tb]? = some (.cells #[.pointer (some e)] 126 (0,0))∧iG w w' tb:=by
 have hlt:tb < w.heap.size:=(Array.getElem?_eq_some_iff.1 ht0).1;have h1:∀o,w.cell? ⟨tb,o,none⟩=(#[Value.pointer none]:Array Value)[o]? :=fun o=>by unfold World.cell?; rw [ht0]; rfl
 refine (JZ e ⟨tb,0,none⟩ (.pointer none) w hg (by rw [h1]; rfl) (by unfold World.frozen?; rw [ht0]; rfl)).mono ?_;rintro ev w' ⟨rfl,rfl⟩;have hk:=((((iG.one w #[.pointer (some ⟨tb,0,none⟩)] 128 tb).trans (iG.one _ #[.pointer (some ⟨17,128,none⟩),.pointer (some ⟨w.heap.size,0,none⟩),.int .u64 150] 163 tb)).trans
  (iG.one _ #[.pointer (some ⟨17,128,none⟩),.pointer (some ⟨w.heap.size,0,none⟩),.int .u64 150] 163 tb)).trans (iG.one _ #[.pointer (some e)] 126 tb))
 refine ⟨rfl,?_,hk.trans (iG.set _ _ _)⟩;unfold World.setCell;rw [iV,af rfl,bM _ _ _ (by simp; omega),bM _ _ _ (by simp; omega),bM _ _ _ (by simp; omega),bM _ _ _ hlt,ht0];rfl
set_option maxRecDepth 1000000 in
theorem JY (t:Value) (w:World):Calls Tryz.prog 70 #[.nilIface,t] w fun ev w'=>ev= .returned (.bool false)∧w'=w:=by
 go_enter Tryz.func70,Tryz.ntmps70
 go_wp2
 go_ret
 exact ⟨rfl,rfl⟩
theorem A4 {c0:Cx} {G:Gm} {F:List En} {v1:Value} {b:Nat} (O0:Own c0 G (⟨.pointer (some ⟨b,0,none⟩),126,[.pointer none],0⟩ :: F)) (hU:Eh c0) (p0:Er) (h1:RE 318 126 c0 v1 p0) {r:Bool} (H:qz p0=some r):
  Calls Tryz.prog 70 #[v1,.iface 128 (.pointer (some ⟨b,0,none⟩))] c0.w (aO c0 fun c v=>∃u,Own c G (⟨.pointer (some ⟨b,0,none⟩),126,[u],0⟩ :: F)∧v= .bool r∧FP c u p0):=by
 obtain ⟨hh,hA⟩:=O0.on 0 rfl b rfl
 cases p0 with
 | nil=>
  cases H
  cases h1
  refine (JY _ c0.w).mono ?_
  rintro e w' ⟨rfl,rfl⟩
  exact ⟨_,c0,rfl,rfl,Cx.le.refl _,_,O0,rfl,rfl⟩
 | sent g=>cases H
 | fault i e=>
  cases H
  obtain ⟨fb,u,rfl,h2,h3,h4⟩:=h1
  refine (Iy ⟨fb,0,none⟩ b c0.w hU.cell hh).mono ?_
  rintro e w' ⟨rfl,ht,hk⟩
  have hne:∀k o,¬c0.A k o→k≠b:=fun k o h q=>h (by rw [q]; exact (hA o).2 (cR _))
  have hb:c0.but (fun k=>k=b) ⟨w',c0.A,c0.t⟩:=⟨⟨hk.os,hk.output,hk.size,fun k o h q=>⟨hk.cell o h (hne k o q),q⟩,fun k h q=>hk.block k h (hne k 0 (q 0)),fun a h _=>hk.frz a h,fun _ _ _ h=>h⟩,rfl,fun k h q=>⟨hk.block k h q,fun _=>oD⟩⟩
  refine ⟨_,⟨w',c0.A,c0.t⟩,rfl,rfl,hb.le,.pointer (some ⟨fb,0,none⟩),O0.set 0 rfl hb (fun k h=>by rw [h]; rfl) (fun b' hb'=>?_) (fun b' h=> .inl h),rfl,fb,u,rfl,h2.mono hb.le,h3.mono hb.le,h4.mono hb.le⟩
  simp only [bk,az] at hb'
  subst hb'
  exact ⟨ht,hA⟩
end Go.Proofs.YtceciacilfhmjaaGreatDoor
