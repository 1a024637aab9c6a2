/- Parts of the proofs of TopDraws: the walk through the code, and plain Lean. No condition. -/
import Derived.WalkKit
import Derived.KernelRfl
import Derived.TacticsIn
import Derived.LoopNIn
import Derived.OrdersIn
import Derived.Laws.BytesString
import Derived.Laws.Concat
import Derived.Laws.Strings
import Derived.Laws.Strings2
import Derived.Laws.Strings3
import Derived.Laws.Slices
import Derived.Lib.ConvBytes
import Derived.Test.YtkgjnbiiiifoaaaGreatDoorProg
import Derived.Shelf.Strings.Split
import Derived.Shelf.Strings.Cut
import Derived.Shelf.Strings.SlTrimAscii
import Derived.Shelf.Small.Wraps
import Derived.Shelf.Small.Strs
import Derived.Lib.ItoaMem
import Derived.Lib.LaidTab
import Derived.Shelf.Strconv.Itoa3
import Derived.Shelf.Strconv.Atoi
import Derived.Shelf.Strings.OnBuilder
set_option linter.unusedVariables false
set_option linter.unusedSimpArgs false
abbrev fD:=@Go.Addr.add_lit
abbrev Mp:=@Array.ext'
abbrev cz:=@Array.getD_eq_getD_getElem?
abbrev lL:=@Array.getElem?_eq_none
abbrev xd:=@Array.getElem?_modify
abbrev KM:=@Array.getElem?_toList
abbrev LW:=@Array.length_toList
abbrev MG:=@Array.toList_map
abbrev LR:=@BitVec.ofInt_natCast
abbrev Mn:=@BitVec.toNat_ofNat
abbrev mu:=@Bool.and_eq_false_iff
abbrev ao:=@Bool.and_eq_true
abbrev Hq:=@Bool.and_false
abbrev I8:=@Bool.and_true
abbrev Ch:=@Bool.eq_false_iff
abbrev ci:=@Bool.eq_iff_iff
abbrev iB:=@Bool.false_and
abbrev aj:=@Bool.false_eq_true
abbrev dz:=@Bool.false_or
abbrev vL:=@Bool.not_eq_true
abbrev cy:=@Bool.not_eq_true'
abbrev eK:=@Bool.not_false
abbrev cP:=@Bool.not_true
abbrev ny:=@Bool.or_eq_false_iff
abbrev aB:=@Bool.or_eq_true
abbrev dy:=@Bool.true_and
abbrev qZ:=@Go.ByteArray.toList_eq
abbrev Hs:=@Classical.byContradiction
abbrev My:=@Go.DataW.trod_struct
abbrev Hp:=@Eq.trans
abbrev Jr:=@Go.WideShapes.add_plain
abbrev wB:=@Iff.rfl
abbrev Jq:=@Int.eq_ofNat_of_zero_le
abbrev Ho:=@Int.fdiv_eq_ediv_of_nonneg
abbrev DH:=@Int.le_refl
abbrev Ml:=@Int.natCast_nonneg
abbrev pi:=@Int.ofNat_lt
abbrev Hn:=@Int.tmod_eq_emod_of_nonneg
abbrev bS:=@Int.toNat_natCast
abbrev qY:=@Int.toNat_of_nonneg
abbrev C3:=@Go.IntKind.wrap_i64
abbrev vJ:=@List.all_eq_true
abbrev Fc:=@List.any_append
abbrev Mx:=@List.any_eq_false
abbrev C2:=@List.any_eq_true
abbrev aO:=@List.append_assoc
abbrev KG:=@List.append_inj_right'
abbrev dY:=@List.append_nil
abbrev Fb:=@List.cons.injEq
abbrev dv:=@List.cons_append
abbrev ME:=@List.cons_ne_nil
abbrev KL:=@List.contains_iff_mem
abbrev iA:=@List.drop_append_of_le_length
abbrev dH:=@List.drop_drop
abbrev tL:=@List.drop_eq_getElem_cons
abbrev lx:=@List.drop_left
abbrev KF:=@List.drop_of_length_le
abbrev iz:=@List.drop_take
abbrev ph:=@List.drop_zero
abbrev dm:=@List.eq_nil_of_length_eq_zero
abbrev MD:=@List.ext_getElem
abbrev bi:=@List.ext_getElem?
abbrev Mj:=@List.filter_append
abbrev za:=@List.flatMap_append
abbrev ug:=@List.flatMap_cons
abbrev MC:=@List.flatMap_nil
abbrev LV:=@List.flatten_append
abbrev pg:=@List.flatten_cons
abbrev kw:=@List.foldl_append
abbrev MK:=@List.foldl_cons
abbrev aq:=@List.getD_eq_getElem?_getD
abbrev fM:=@List.getElem?_append
abbrev aC:=@List.getElem?_append_left
abbrev be:=@List.getElem?_append_right
abbrev fL:=@List.getElem?_cons_succ
abbrev lv:=@List.getElem?_cons_zero
abbrev bO:=@List.getElem?_drop
abbrev af:=@List.getElem?_eq_getElem
abbrev az:=@List.getElem?_eq_none
abbrev bB:=@List.getElem?_map
abbrev dE:=@List.getElem?_range
abbrev LM:=@List.getElem?_range'
abbrev jc:=@List.getElem?_replicate
abbrev mG:=@List.getElem?_set
abbrev aW:=@List.getElem?_set_ne
abbrev bp:=@List.getElem?_set_self
abbrev aT:=@List.getElem?_take
abbrev bL:=@List.getElem?_toArray
abbrev KE:=@List.getElem_cons_succ
abbrev KD:=@List.getElem_cons_zero
abbrev Mw:=@List.getElem_drop
abbrev eo:=@List.getElem_map
abbrev ay:=@List.getElem_mem
abbrev AN:=@List.getElem_range
abbrev jx:=@List.getElem_replicate
abbrev MB:=@List.getElem_set
abbrev Mv:=@List.isEmpty_cons
abbrev ax:=@List.length_append
abbrev aM:=@List.length_cons
abbrev br:=@List.length_drop
abbrev pH:=@List.length_filter_le
abbrev dF:=@List.length_map
abbrev bf:=@List.length_nil
abbrev uf:=@List.length_range
abbrev mq:=@List.length_replicate
abbrev cq:=@List.length_set
abbrev KK:=@List.length_singleton
abbrev aA:=@List.length_take
abbrev bK:=@List.map_append
abbrev dt:=@List.map_congr_left
abbrev zE:=@List.map_cons
abbrev MJ:=@List.map_const'
abbrev KC:=@List.map_map
abbrev tf:=@List.map_singleton
abbrev qS:=@List.mem_append
abbrev dQ:=@List.mem_append_left
abbrev pG:=@List.mem_append_right
abbrev kM:=@List.mem_cons
abbrev qz:=@List.mem_cons_of_mem
abbrev AM:=@List.mem_cons_self
abbrev qy:=@List.mem_of_getElem?
abbrev kv:=@List.mem_of_mem_drop
abbrev ku:=@List.mem_of_mem_take
abbrev Hr:=@List.mem_or_eq_of_mem_set
abbrev Cg:=@List.mem_range'_1
abbrev bW:=@List.nil_append
abbrev Mu:=@List.nodup_range'
abbrev gP:=@List.not_mem_nil
abbrev Mi:=@List.range'_concat
abbrev lY:=@List.range_succ
abbrev LL:=@List.replicate_succ'
abbrev Mt:=@List.reverse_cons
abbrev LK:=@List.reverse_reverse
abbrev pF:=@List.set_append_right
abbrev td:=@List.set_cons_zero
abbrev xc:=@List.set_getElem_self
abbrev xb:=@List.singleton_append
abbrev ue:=@List.size_toArray
abbrev C1:=@List.take_append
abbrev KJ:=@List.take_append_drop
abbrev dP:=@List.take_append_of_le_length
abbrev Hm:=@List.take_left
abbrev cC:=@List.take_length
abbrev aG:=@List.take_of_length_le
abbrev LU:=@List.take_succ_cons
abbrev ak:=@List.take_succ_eq_append_getElem
abbrev nx:=@List.take_take
abbrev iy:=@List.take_zero
abbrev AL:=@List.zip_cons_cons
abbrev uD:=@Nat.add_assoc
abbrev iw:=@Nat.add_mul
abbrev AK:=@Nat.add_sub_cancel
abbrev rT:=@Nat.add_zero
abbrev pE:=@Nat.ble_eq_true_of_le
abbrev pD:=@Nat.eq_of_beq_eq_true
abbrev tc:=@Nat.eq_zero_or_pos
abbrev bF:=@Nat.le_of_ble_eq_true
abbrev wA:=@Nat.le_of_lt
abbrev av:=@Nat.le_refl
abbrev LJ:=@Nat.le_succ
abbrev cO:=@Nat.le_trans
abbrev eJ:=@Nat.lt_of_lt_of_le
abbrev aE:=@Nat.lt_or_ge
abbrev Mh:=@Nat.lt_or_gt_of_ne
abbrev Ms:=@Nat.lt_succ_of_lt
abbrev MA:=@Nat.lt_succ_self
abbrev DG:=@Nat.min_def
abbrev cV:=@Nat.min_eq_left
abbrev CZ:=@Nat.mod_eq_of_lt
abbrev Hl:=@Nat.mod_lt
abbrev qx:=@Nat.mul_le_mul_right
abbrev LI:=@Nat.mul_one
abbrev Fa:=@Nat.not_lt_zero
abbrev oK:=@Nat.one_mul
abbrev nF:=@Nat.sub_self
abbrev Cf:=@Nat.sub_zero
abbrev ba:=@Nat.succ_pos
abbrev kr:=@Nat.zero_add
abbrev dk:=@Nat.zero_le
abbrev wy:=@Nat.zero_mul
abbrev wx:=@Ne.symm
abbrev I5:=@Go.Oper.semAt_eq
abbrev Mr:=@Go.Oper.uponIn_value
abbrev Mq:=@Option.bind_assoc
abbrev Jm:=@Option.bind_eq_some_iff
abbrev CY:=@Option.bind_some
abbrev Mz:=@Option.getD_some
abbrev bJ:=@Option.isNone_some
abbrev MI:=@Option.map_none
abbrev fC:=@Option.map_some
abbrev aL:=@Option.some.inj
abbrev aK:=@Option.some.injEq
abbrev ib:=@Prod.mk.injEq
abbrev pf:=@Go.Result.andThen_ok
abbrev cf:=@Go.RowKit.Below.heap_alloc
abbrev mF:=@Go.RowKit.Below.refl
abbrev Hk:=@Go.RowKit.frozen?_alloc_cells
abbrev gZ:=@Go.Sem.run_bind
abbrev Ce:=@Go.Sem.run_pure
abbrev uC:=@Sum.inl.injEq
abbrev iv:=@Go.World.cell?_alloc_lt
abbrev dw:=@Go.World.cell?_of_block
abbrev oJ:=@Go.World.frozen?_alloc_old
abbrev Mg:=@Go.World.keptBut_mono
abbrev E9:=@Go.World.var?_cell
abbrev qw:=@and_true
abbrev fe:=@beq_eq_false_iff_ne
abbrev aS:=@beq_iff_eq
abbrev lu:=@beq_self_eq_true
abbrev kL:=@bne_iff_ne
abbrev Ks:=@Go.callsIn_wide
abbrev iu:=@Go.cell_of_row
abbrev Md:=@cond_false
abbrev nb:=@congrArg
abbrev eB:=@decide_eq_false_iff_not
abbrev yc:=@decide_eq_true
abbrev am:=@decide_eq_true_eq
abbrev lI:=@decide_true
abbrev yB:=@dif_neg
abbrev we:=@dif_pos
abbrev Ma:=@Go.execOp_put
abbrev CG:=@ge_iff_le
abbrev Li:=@Go.getD_set_ne
abbrev Lh:=@Go.grownCap_ge
abbrev Ak:=@Go.grownCap_le_maxLen
abbrev xY:=@Go.heap_alloc_new
abbrev aU:=@if_false
abbrev ab:=@if_neg
abbrev ae:=@if_pos
abbrev bA:=@if_true
abbrev zt:=@ne_eq
abbrev Bj:=@not_and
abbrev tR:=@not_false_eq_true
abbrev JX:=@not_or
abbrev L6:=@of_decide_eq_false
abbrev tQ:=@of_decide_eq_true
abbrev sj:=@or_false
abbrev L4:=@Go.ready_mono
abbrev MH:=@Go.run_append_room
abbrev cW:=@Go.run_callFunc_extern
abbrev LS:=@Go.run_firstCells_some
abbrev LX:=@Go.run_sliceAt_string
abbrev A5:=@Go.run_storeCells_at
abbrev bU:=@Go.run_underlying
abbrev C9:=@Go.setRow_heap
abbrev JF:=@Go.setRow_other
abbrev xq:=@true_and
abbrev nz:=@Go.wpIn_mono
abbrev xp:=@Go.wpListIn_plain
namespace Go.Lt
structure Fr where
 n:Nat
 df:List Deferred
 ro:Option Nat
instance:CoeOut Fr Nat:=⟨Fr.n⟩
def fen (r:Option Nat):Fence:={ Fence.wide with round:=r}
def act (n:Fr) (e:Nat->Value):Act:={ tmps:=((List.range n.n).map e).toArray,defers:=n.df}
def ev (n:Nat) (e:Nat->Value):Operand->Value
 | .tmp t=>cond (Nat.ble (t+1) n) (e t) undef
 | .const v=>v
 | .global g=> .pointer (some ⟨g,0,none⟩)
 | .func f=> .func (.func f) #[] #[]
def up (e:Nat->Value) (d:Nat) (v:Value):Nat->Value:=fun t=>cond (Nat.beq t d) v (e t)
def upO (e:Nat->Value):Option Nat->Value->(Nat->Value)
 | some d,v=>up e d v
 | none,_=>e
theorem nv (n:Fr) (e:Nat->Value):(act n e).eval=ev n e:=by
 funext x
 cases x with
 | tmp t=>
  simp only [Act.eval,act,ev];by_cases h:t<n.n
  ·have:Nat.ble (t+1) n.n=true:=pE h;simp [h,this]
  ·have:Nat.ble (t+1) n.n=false:=by
    cases hb:Nat.ble (t+1) n.n with
    | false=>rfl
    | true=>exact absurd (bF hb) h
   simp [h,this]
 | const v=>rfl
 | global g=>rfl
 | func f=>rfl
theorem qR (n:Fr) (e:Nat->Value) (d:Option Nat) (v:Value):(act n e).put d v=act n (upO e d v):=by
 cases d with
 | none=>rfl
 | some d=>
  simp only [Act.put,act,upO]
  congr 1
  apply Array.ext
  ·simp
  ·intro i h1 h2;simp only [ue,dF,uf,Array.size_setIfInBounds] at h1 h2;by_cases hi:d=i
   ·subst hi; simp [up]
   ·have:Nat.beq i d=false:=by
     cases hb:Nat.beq i d with
     | false=>rfl
     | true=>exact absurd (pD hb).symm hi
    simp [up,hi,this]
def KP:Exit->Prop
 | .panic _=>False
 | .outgrown=>False
 | _=>True
def Bo (n:Fr) (Q:Exit->(Nat->Value)->World->Prop):Exit->Act->World->Prop:=fun x a w=>KP x/\∃e,a=act n e/\Q x e w
def W (P:Program) (n:Fr) (c:Code) (Q:Exit->(Nat->Value)->World->Prop) (e:Nat->Value) (w:World):Prop:=c.wpIn (fen n.ro) 0 P (Bo n Q) (act n e) w
def rV (K:(Nat->Value)->World->Prop) (Q:Exit->(Nat->Value)->World->Prop):Exit->(Nat->Value)->World->Prop
 | .normal,e,w=>K e w
 | x,e,w=>Q x e w
def nP (id:Nat) (Q:Exit->(Nat->Value)->World->Prop):Exit->(Nat->Value)->World->Prop
 | .exit i,e,w=>cond (Nat.beq i id) (Q .normal e w) (Q (.exit i) e w)
 | x,e,w=>Q x e w
section
variable {P:Program}{n:Fr}{Q Q':Exit->(Nat->Value)->World->Prop}{e:Nat->Value}{w:World}{a b:Code}
theorem W.mono (h:W P n a Q e w) (hq:∀x e w,Q x e w->Q' x e w):W P n a Q' e w:=
 nz h fun x _ w ⟨ht,e,ha,hQ⟩=>⟨ht,e,ha,hq x e w hQ⟩
theorem W.seq (h:W P n a (rV (W P n b Q) Q) e w):W P n (a.seq b) Q e w:=
 wpIn_seq (nz h fun x a' w' ⟨ht,e',ha,hQ⟩=>by
  subst ha
  cases x with
  | normal=>exact hQ
  | _=>exact ⟨ht,e',rfl,hQ⟩)
theorem W.seqJ (J:(Nat->Value)->World->Prop) (h:W P n a (rV J Q) e w) (hJ:∀e w,J e w->W P n b Q e w):W P n (a.seq b) Q e w:=
 W.seq (W.mono h fun x e w hx=>by cases x <;> first|exact hJ _ _ hx|exact hx)
theorem W.skip (h:Q .normal e w):W P n .skip Q e w:=wpIn_skip ⟨trivial,e,rfl,h⟩
theorem W.ret (h:Q .ret e w):W P n .ret Q e w:=wpIn_ret ⟨trivial,e,rfl,h⟩
theorem W.exit {id:Nat}(h:Q (.exit id) e w):W P n (.exit id) Q e w:=wpIn_exit ⟨trivial,e,rfl,h⟩
theorem W.block {id:Nat}(h:W P n a (nP id Q) e w):W P n (.block id a) Q e w:=
 wpIn_block (nz h fun x a' w' ⟨ht,e',ha,hQ⟩=>by
  subst ha
  cases x with
  | exit i=>
   simp only [Exit.inBlock];by_cases hi:i=id
   ·subst hi;rw [ae rfl];exact ⟨trivial,e',rfl,by simpa [nP] using hQ⟩
   ·rw [ab hi];have:Nat.beq i id=false:=by
     cases hb:Nat.beq i id with
     | false=>rfl
     | true=>exact absurd (pD hb) hi
    exact ⟨trivial,e',rfl,by simpa [nP,this] using hQ⟩
  | _=>exact ⟨ht,e',rfl,hQ⟩)
theorem W.cond {c:Operand}{t:Bool}(hc:ev n e c= .bool t) (ht:t=true->W P n a Q e w) (hf:t=false->W P n b Q e w):W P n (.cond c a b) Q e w:=
 wpIn_cond_split (by rw [nv]; exact hc) ht hf
def WL (P:Program) (ops:Array Oper) (n:Fr) (Q:Exit->(Nat->Value)->World->Prop) (l:List Oper) (e:Nat->Value) (w:World):Prop:=
 wpListIn (fen n.ro) 0 P ops (Bo n Q) l (act n e) w
theorem W.region {id:Nat}{l:List Oper}(h:WL P l.toArray n Q l e w):W P n (.region id l.toArray false) Q e w:=wpIn_region_lit h
variable {ops:Array Oper}{o:Oper}{rest:List Oper}
theorem WL.nil (h:Q .normal e w):WL P ops n Q [] e w:=⟨trivial,e,rfl,h⟩
theorem rY {r:Option Nat}{ρ:Operand->Value}{w w':World}{x:Next}(h:(execOp ρ o).run P w= .ok x w') (hx:∀d,x≠ .defer d):(o.semAt r ρ).run P w= .ok x w':=by
 by_cases hd:∀c,o.op≠ .defer c
 ·rw [I5 r ρ o hd]; exact h
 ·obtain ⟨c,hc⟩:=Classical.not_forall.1 hd;have hc:=Classical.not_not.1 hc;unfold execOp at h;rw [hc] at h;simp only [gZ,Ce] at h
  cases hr:(resolve ρ c o.type).run P w with
  | ok d w1=>rw [hr] at h; simp only [Result.andThen,Result.ok.injEq] at h; exact absurd h.1.symm (hx d)
  | halt h1 w1=>rw [hr] at h; simp [Result.andThen] at h
theorem wK {r:Option Nat}{k:Nat}{f:FuncId}{args:Array Value}{w:World}{R:Ending->World->Prop}(h:Calls P f args w R):CallsIn (fen r) k P f args w R:=(Ks (n:=k)).2 h
theorem FZ {v:Value}{w':World}{K:Act->World->Prop}{Qa:Exit->Act->World->Prop}(hr:(execOp (ev n e) o).run P w= .ok (.value v) w') (h:K (act n (upO e o.dst v)) w'):o.wpIn (fen n.ro) 0 P (act n e) w K Qa:=by
 refine ⟨fun _ _=>trivial,?_⟩;rw [nv,rY hr (by simp),Mr,qR];exact h
theorem Je {w':World}{K:Act->World->Prop}{Qa:Exit->Act->World->Prop}(hr:(execOp (ev n e) o).run P w= .ok .skip w') (h:K (act n (upO e o.dst undef)) w'):o.wpIn (fen n.ro) 0 P (act n e) w K Qa:=by
 refine ⟨fun _ _=>trivial,?_⟩;rw [nv,rY hr (by simp),Oper.uponIn_skip,qR];exact h
theorem Dg {f:FuncId}{args:Array Value}{w':World}{K:Act->World->Prop}{Qa:Exit->Act->World->Prop}(hr:(execOp (ev n e) o).run P w= .ok (.enter f args) w')
  (hc:Calls P f args w' fun x w''=>∃v,x= .returned v/\K (act n (upO e o.dst v)) w''):o.wpIn (fen n.ro) 0 P (act n e) w K Qa:=by
 refine ⟨fun _ _=>trivial,?_⟩;rw [nv,rY hr (by simp),Oper.uponIn_enter];refine ⟨fun h=>(by cases h),(wK hc).mono ?_⟩;rintro x w'' ⟨v,rfl,h⟩;simp only [qR];exact h
theorem WL.val {v:Value}{w':World}(hg:o.guard=none) (hr:(execOp (ev n e) o).run P w= .ok (.value v) w') (h:WL P ops n Q rest (upO e o.dst v) w'):WL P ops n Q (o::rest) e w:=
 xp hg fun K hK=>FZ hr (hK _ _ h)
theorem WL.do_ {w':World}(hg:o.guard=none) (hr:(execOp (ev n e) o).run P w= .ok .skip w') (h:WL P ops n Q rest (upO e o.dst undef) w'):WL P ops n Q (o::rest) e w:=
 xp hg fun K hK=>Je hr (hK _ _ h)
theorem WL.call {f:FuncId}{args:Array Value}{w':World}(hg:o.guard=none) (hr:(execOp (ev n e) o).run P w= .ok (.enter f args) w')
  (hc:Calls P f args w' fun x w''=>∃v,x= .returned v/\WL P ops n Q rest (upO e o.dst v) w''):WL P ops n Q (o::rest) e w:=
 xp hg fun K hK=>Dg hr (hc.mono fun x w'' ⟨v,hx,h⟩=>⟨v,hx,hK _ _ h⟩)
def yl (ops:Array Oper) (n:Nat) (e:Nat->Value) (j:Nat):Option Bool:=
 match (ops[j]?).bind Oper.dst with
 | some d=>match ev n e (.tmp d) with
  | .bool b=>some b
  | _=>none
 | none=>none
def jg (ops:Array Oper) (n:Nat) (e:Nat->Value) (o:Oper):Bool:=
 match o.guard with
 | none=>true
 | some (j,want)=>yl ops n e j==some want
theorem pW (ops:Array Oper) (n:Fr) (e:Nat->Value) (o:Oper) (h:∀d,(∃j:Nat,(ops[j]?).bind Oper.dst=some d)->d<n.n):
  Region.wanted o (yielded ops (act n e).tmps)=jg ops n e o:=by
 unfold Region.wanted jg
 cases hg:o.guard with
 | none=>rfl
 | some jw=>
  obtain ⟨j,want⟩:=jw;simp only
  congr 1
  unfold yielded yl
  cases hd:(ops[j]?).bind Oper.dst with
  | none=>rfl
  | some d=>
   have hdn:=h d ⟨j,hd⟩;have:Nat.ble (d+1) n.n=true:=pE hdn;simp only [act,ev,CY,this,cond_true];simp only [bL,bB,dE hdn,fC]
   cases e d <;> rfl
def fF (n:Nat):List Oper->Bool
 | []=>true
 | o::l=>(match o.dst with|some d=>Nat.ble (d+1) n|none=>true) && fF n l
theorem lA {n:Nat}{l:List Oper}(h:fF n l=true) (d:Nat) (hd:∃j:Nat,(l.toArray[j]?).bind Oper.dst=some d):d<n:=by
 obtain ⟨j,hj⟩:=hd;simp only [bL] at hj
 induction l generalizing j with
 | nil=>simp at hj
 | cons o l ih=>
  simp only [fF,ao] at h
  cases j with
  | zero=>
   simp only [lv,CY] at hj;rw [hj] at h;exact bF h.1
  | succ j=>exact ih h.2 j (by simpa using hj)
theorem WL.pass {l:List Oper}(hs:fF n l=true) (hw:jg l.toArray n e o=false) (h:WL P l.toArray n Q rest (upO e o.dst undef) w):WL P l.toArray n Q (o::rest) e w:=by
 have hww:Region.wanted o (yielded l.toArray (act n e).tmps)=false:=by rw [pW _ _ _ _ (lA hs)]; exact hw
 unfold WL wpListIn;rw [ab (by rw [hww]; simp),qR];exact ⟨fun _ _=>trivial,h⟩
theorem WL.want {l:List Oper}(hs:fF n l=true) (hw:jg l.toArray n e o=true) (h:WL P l.toArray n Q ({ o with guard:=none}::rest) e w):WL P l.toArray n Q (o::rest) e w:=by
 have hww:Region.wanted o (yielded l.toArray (act n e).tmps)=true:=by rw [pW _ _ _ _ (lA hs)]; exact hw
 have hg:Region.wanted ({ o with guard:=none}:Oper) (yielded l.toArray (act n e).tmps)=true:=rfl;unfold WL wpListIn at h|-;rw [ae hww];rw [ae hg] at h;exact h
theorem W.join (J:(Nat->Value)->World->Prop) (h:W P n a (rV J (fun _ _ _=>False)) e w) (hJ:∀e w,J e w->Q .normal e w):W P n a Q e w:=
 W.mono h fun x e w hx=>by cases x <;> first|exact hJ _ _ hx|exact hx.elim
theorem nrm {K:(Nat->Value)->World->Prop}(h:K e w):rV K Q .normal e w:=h
theorem thx {K:(Nat->Value)->World->Prop}{i:Nat}(h:Q (.exit i) e w):rV K Q (.exit i) e w:=h
theorem thr {K:(Nat->Value)->World->Prop}(h:Q .ret e w):rV K Q .ret e w:=h
theorem bkn {i:Nat}(h:Q .normal e w):nP i Q .normal e w:=h
theorem bkr {i:Nat}(h:Q .ret e w):nP i Q .ret e w:=h
theorem bke {i:Nat}(h:Q .normal e w):nP i Q (.exit i) e w:=by
 have:Nat.beq i i=true:=Nat.beq_refl i;simpa [nP,this] using h
theorem bko {i j:Nat}(hij:Nat.beq j i=false) (h:Q (.exit j) e w):nP i Q (.exit j) e w:=by simpa [nP,hij] using h
theorem WL.valb {t b:Bool}{w':World}(ht:t=b) (hg:o.guard=none) (hr:(execOp (ev n e) o).run P w= .ok (.value (.bool t)) w') (h:WL P ops n Q rest (upO e o.dst (.bool b)) w'):WL P ops n Q (o::rest) e w:=by
 subst ht;exact WL.val hg hr h
theorem WL.val0 {v:Value}(hg:o.guard=none) (hr:(execOp (ev n e) o).run P w= .ok (.value v) w) (h:WL P ops n Q rest (upO e o.dst v) w):WL P ops n Q (o::rest) e w:=WL.val hg hr h
theorem WL.valb0 {t b:Bool}(ht:t=b) (hg:o.guard=none) (hr:(execOp (ev n e) o).run P w= .ok (.value (.bool t)) w) (h:WL P ops n Q rest (upO e o.dst (.bool b)) w):WL P ops n Q (o::rest) e w:=WL.valb ht hg hr h
def cm {σ τ:Type}:Nat->(σ->Option (σ ⊕ τ))->σ->Option τ
 | 0,_,_=>none
 | n+1,f,s=>(f s).bind fun x=>match x with
  | .inl s'=>cm n f s'
  | .inr t=>some t
def lpQ {σ τ:Type}(F:σ->(Nat->Value)->World->Prop) (Out:τ->Exit->(Nat->Value)->World->Prop) (x:σ ⊕ τ):Exit->(Nat->Value)->World->Prop
 | .normal,e,w=>∃s,x= .inl s/\F s e w
 | ex,e,w=>∃t,x= .inr t/\Out t ex e w
theorem W.loop {σ τ:Type}{step:σ->Option (σ ⊕ τ)}(F:σ->(Nat->Value)->World->Prop) (Out:τ->Exit->(Nat->Value)->World->Prop)
  (hb:∀s x e w,step s=some x->F s e w->W P n a (lpQ F Out x) e w){fuel:Nat}{s:σ}{t:τ}(H:cm fuel step s=some t) (h0:F s e w)
  (hQ:∀x e w,Out t x e w->Q x e w):W P n (.loop a) Q e w:=by
 refine wpIn_loop_rounds fuel ?_
 induction fuel generalizing s e w with
 | zero=>cases H
 | succ k ih=>
  rw [roundsIn_succ];simp only [cm] at H
  cases hs:step s with
  | none=>rw [hs] at H; cases H
  | some x=>
   rw [hs] at H;refine nz (hb s x e w hs h0) ?_;rintro y a' w' ⟨ht,e',rfl,hq⟩
   cases x with
   | inl s'=>
    cases y with
    | normal=>
     obtain ⟨s1,h1,h2⟩:=hq;cases h1;exact ih H h2
    | _=>obtain ⟨t1,h1,_⟩:=hq; cases h1
   | inr t'=>
    have:t'=t:=by simpa using H
    subst this
    cases y with
    | normal=>obtain ⟨s1,h1,_⟩:=hq; cases h1
    | _=>obtain ⟨t1,h1,h2⟩:=hq; cases h1; exact ⟨ht,e',rfl,hQ _ _ _ h2⟩
def ar:List Value->Nat->Value
 | [],_=>undef
 | v::_,0=>v
 | _::l,t+1=>ar l t
def pb (P:Program) (fn:Func) (n:Fr) (R:Ending->World->Prop):Exit->(Nat->Value)->World->Prop
 | .normal,e,w=>∃v,(results fn (act n e).tmps).run P w= .ok v w/\R (.returned v) w
 | .ret,e,w=>∃v,(results fn (act n e).tmps).run P w= .ok v w/\R (.returned v) w
 | _,_,_=>False
theorem Hi (n:Nat) (l:List Value) (h:l.length<=n):act ⟨n,[],none⟩ (ar l)= { tmps:=l.toArray++Array.replicate (n-l.length) undef,defers:=[]}:=by
 unfold act
 congr 1
 apply Mp;apply MD
 ·simp; omega
 ·intro i h1 h2;simp only [eo,AN,Array.toList_append,Array.toList_replicate];have key:∀(l:List Value) (i:Nat) (h:i<l.length),ar l i=l[i]:=by
   intro l
   induction l with
   | nil=>intro i h; simp at h
   | cons v l ih=>
    intro i h
    cases i with
    | zero=>rfl
    | succ i=>exact ih i (by simpa using h)
  have key2:∀(l:List Value) (i:Nat) (h:l.length<=i),ar l i=undef:=by
   intro l
   induction l with
   | nil=>intro i h; rfl
   | cons v l ih=>
    intro i h
    cases i with
    | zero=>simp at h
    | succ i=>exact ih i (by simpa using h)
  by_cases hi:i<l.length
  ·rw [List.getElem_append_left hi]; exact key l i hi
  ·rw [List.getElem_append_right (by omega)]; rw [key2 l i (by omega)]; simp
theorem enter {f:FuncId}{fn:Func}{code:Code}{n:Nat}{l:List Value}{w:World}{R:Ending->World->Prop}(hf:P.funcs[f]? = some fn) (hb:fn.body=some code) (hn:fn.ntmps=n)
  (hl:Nat.ble l.length n=true) (h:W P ⟨n,[],none⟩ code (pb P fn ⟨n,[],none⟩ R) (ar l) w):Calls P f l.toArray w R:=by
 subst hn;have hl:=bF hl;refine (Ks (n:=0)).1 (callsIn_of_wp hf hb trivial ?_);rw [ue,<-Hi _ l hl];refine nz h ?_;rintro x a w' ⟨_,e',rfl,hq⟩
 cases x <;> first|exact ⟨rfl,hq⟩|exact hq.elim
theorem gV (n:Fr) (e:Nat->Value) (t:Nat):(act n e).tmps.getD t undef=ev n e (.tmp t):=by
 rw [<-nv]; rfl
theorem L0 {fn:Func}{R:Ending->World->Prop}(hr:fn.results= #[]) (h:R (.returned (.tuple #[])) w):pb P fn n R .ret e w:=
 ⟨_,results_none hr _ _ _,h⟩
theorem Mb {fn:Func}{R:Ending->World->Prop}(hr:fn.results= #[]) (h:R (.returned (.tuple #[])) w):pb P fn n R .normal e w:=
 ⟨_,results_none hr _ _ _,h⟩
theorem FO {fn:Func}{R:Ending->World->Prop}{t:Nat}{v:Value}(hr:fn.results= #[.tmp t]) (hv:ev n e (.tmp t)=v) (h:R (.returned v) w):pb P fn n R .ret e w:=
 ⟨_,results_tmp hr _ _ _,by rw [gV,hv]; exact h⟩
theorem LZ {fn:Func}{R:Ending->World->Prop}{t u:Nat}{v v':Value}(hr:fn.results= #[.tmp t,.tmp u]) (hv:ev n e (.tmp t)=v) (hu:ev n e (.tmp u)=v') (h:R (.returned (.tuple #[v,v'])) w):pb P fn n R .ret e w:=
 ⟨_,results_tmp2 hr _ _ _,by rw [gV,gV,hv,hu]; exact h⟩
def ups (e:Nat->Value):List (Nat×Value)->(Nat->Value)
 | []=>e
 | (t,v)::l=>up (ups e l) t v
def holds (e:Nat->Value):List (Nat×Value)->Prop
 | []=>True
 | (t,v)::l=>e t=v/\holds e l
theorem Hv (e:Nat->Value){t:Nat}{v:Value}(h:e t=v):up e t v=e:=by
 funext i
 unfold up;by_cases hb:Nat.beq i t=true
 ·rw [hb,pD hb]; exact h.symm
 ·simp [hb]
theorem AV:∀{l:List (Nat×Value)}{e:Nat->Value},holds e l->e=ups e l
 | [],_,_=>rfl
 | (t,v)::l,e,h=>by
  have:=AV (l:=l) h.2;rw [ups,<-this];exact (Hv e h.1).symm
end
def w64 (n:Int):Int:=IntKind.i64.wrap n
def w32 (n:Int):Int:=IntKind.i32.wrap n
def bb (x y:Int):Int:=if y>x then y else x
def aR (x y:Int):Int:=if y<x then y else x
theorem bs {α β:Type}{x:Option α}{f:α->Option β}{r:β}(h:x.bind f=some r):∃a,x=some a/\f a=some r:=by
 cases x with
 | none=>cases h
 | some a=>exact ⟨a,rfl,h⟩
theorem it {α:Type}{b:Bool}{x y:Option α}{r:α}(hb:b=true) (h:(if b then x else y)=some r):x=some r:=by rw [ae hb] at h; exact h
theorem ie {α:Type}{b:Bool}{x y:Option α}{r:α}(hb:b=false) (h:(if b then x else y)=some r):y=some r:=by rw [ab (by simp [hb])] at h; exact h
def orE (t:Bool) (x:Option Bool):Option Bool:=if t then some true else x
def bw (t:Bool) (x:Option Bool):Option Bool:=if t then x else some false
theorem orT {t:Bool}{x:Option Bool}{d:Bool}(ht:t=true) (h:orE t x=some d):d=true:=by simp [orE,ht] at h; exact h
theorem orF {t:Bool}{x:Option Bool}{d:Bool}(ht:t=false) (h:orE t x=some d):x=some d:=by simpa [orE,ht] using h
theorem anT {t:Bool}{x:Option Bool}{d:Bool}(ht:t=true) (h:bw t x=some d):x=some d:=by simpa [bw,ht] using h
theorem anF {t:Bool}{x:Option Bool}{d:Bool}(ht:t=false) (h:bw t x=some d):d=false:=by simp [bw,ht] at h; exact h
end Go.Lt
namespace Go.Lt
structure Cx where
 w:World
 A:Nat->Nat->Prop
 t:Nat->Nat->Option Nat
structure Cx.le (c c':Cx):Prop where
 os:c'.w.os=c.w.os
 output:c'.w.output=c.w.output
 size:c.w.heap.size<=c'.w.heap.size
 cell:∀k o,k<c.w.heap.size->¬c.A k o->c'.w.cell? ⟨k,o,none⟩=c.w.cell? ⟨k,o,none⟩/\¬c'.A k o
 block:∀k,k<c.w.heap.size->(∀o,¬c.A k o)->c'.w.heap[k]? = c.w.heap[k]?
 frz:∀a,a.block<c.w.heap.size->¬c.A a.block a.off->c'.w.frozen? a=c.w.frozen? a
 t:∀g k b,c.t g k=some b->c'.t g k=some b
theorem Cx.le.refl (c:Cx):c.le c:=⟨rfl,rfl,av _,fun _ _ _ h=>⟨rfl,h⟩,fun _ _ _=>rfl,fun _ _ _=>rfl,fun _ _ _ h=>h⟩
theorem Cx.le.trans {a b c:Cx}(h:a.le b) (k:b.le c):a.le c:=
 ⟨k.os.trans h.os,k.output.trans h.output,cO h.size k.size,fun i o hi hA=>by
  obtain ⟨h1,h2⟩:=h.cell i o hi hA;obtain ⟨k1,k2⟩:=k.cell i o (eJ hi h.size) h2;exact ⟨k1.trans h1,k2⟩,fun i hi hA=>(k.block i (eJ hi h.size) fun o=>(h.cell i o hi (hA o)).2).trans (h.block i hi hA),
  fun a ha hA=>(k.frz a (eJ ha h.size) (h.cell _ _ ha hA).2).trans (h.frz a ha hA),fun g i b hb=>k.t g i b (h.t g i b hb)⟩
structure Cx.lw (c c':Cx):Prop where
 os:c'.w.os=c.w.os
 output:c'.w.output=c.w.output
 size:c.w.heap.size<=c'.w.heap.size
 cell:∀k o,k<c.w.heap.size->¬c.A k o->c'.w.cell? ⟨k,o,none⟩=c.w.cell? ⟨k,o,none⟩/\¬c'.A k o
 block:∀k vs T f,c.w.heap[k]? = some (.cells vs T f)->(∀o,¬c.A k o)->c'.w.heap[k]? = c.w.heap[k]?
 frz:∀a,a.block<c.w.heap.size->¬c.A a.block a.off->c'.w.frozen? a=c.w.frozen? a
 t:∀g k b,c.t g k=some b->c'.t g k=some b
theorem Cx.le.lw {c c':Cx}(h:c.le c'):c.lw c':=⟨h.os,h.output,h.size,h.cell,fun k _ _ _ hk hA=>h.block k (Array.getElem?_eq_some_iff.1 hk).1 hA,h.frz,h.t⟩
instance {c c':Cx}:Coe (c.le c') (c.lw c'):=⟨Cx.le.lw⟩
theorem Cx.lw.trans {a b c:Cx}(h:a.lw b) (k:b.lw c):a.lw c:=
 ⟨k.os.trans h.os,k.output.trans h.output,cO h.size k.size,fun i o hi hA=>by
  obtain ⟨h1,h2⟩:=h.cell i o hi hA;obtain ⟨k1,k2⟩:=k.cell i o (eJ hi h.size) h2;exact ⟨k1.trans h1,k2⟩,fun i vs T f hi hA=>by
  have h1:=h.block i vs T f hi hA;exact (k.block i vs T f (h1.trans hi) fun o=>(h.cell i o (Array.getElem?_eq_some_iff.1 hi).1 (hA o)).2).trans h1,
  fun a ha hA=>(k.frz a (eJ ha h.size) (h.cell _ _ ha hA).2).trans (h.frz a ha hA),fun g i b hb=>k.t g i b (h.t g i b hb)⟩
structure Cx.but (D:Nat->Prop) (c c':Cx):Prop where
 le:c.le c'
 t:c'.t=c.t
 same:∀k,k<c.w.heap.size->¬D k->c'.w.heap[k]? = c.w.heap[k]?/\∀o,c'.A k o↔c.A k o
def Gr (w w':World):Prop:=w.keptBut w' (fun _=>False)/\(∀a,a.block<w.heap.size->w'.frozen? a=w.frozen? a)/\w.heap.size<=w'.heap.size
theorem Gr.frame {w w':World}(h:Gr w w') (may:MemPlace->Prop):w.keptBut w' may:=Mg (fun _ f=>f.elim) h.1
theorem Cx.le.grown {w:World}{c':Cx}(h:Cx.le ⟨w,fun _ _=>False,fun _ _=>none⟩ c'):Gr w c'.w:=
 ⟨⟨h.os,h.output,fun i hi=>by
  rw [h.block i hi fun _=>id];have:=World.keptBut_refl w fun _=>False;exact this.2.2 i hi⟩,fun a ha=>h.frz a ha id,h.size⟩
structure Im (c:Cx) (b o:Nat) (v:Value):Prop where
 lt:b<c.w.heap.size
 nA:¬c.A b o
 cell:c.w.cell? ⟨b,o,none⟩=some v
theorem Im.lw {c c':Cx}{b o:Nat}{v:Value}(h:Im c b o v) (k:c.lw c'):Im c' b o v:=by
 obtain ⟨h1,h2⟩:=k.cell b o h.lt h.nA;exact ⟨eJ h.lt k.size,h2,h1.trans h.cell⟩
theorem Im.mono {c c':Cx}{b o:Nat}{v:Value}(h:Im c b o v) (k:c.le c'):Im c' b o v:=h.lw k.lw
structure Rp (α:Type) where
 size:Nat
 cells:Cx->List Value->α->Prop
 len:∀{c l x},cells c l x->l.length=size
 one:∀{c l x},cells c l x->∀v∈l,v.oneCell'=true
 mono:∀{c c' l x},c.lw c'->cells c l x->cells c' l x
def RI (k:IntKind):Rp Int where
 size:=1
 cells:=fun _ l n=>l= [.int k n]
 len:=fun h=>by simp [h]
 one:=fun h v hv=>by rw [h] at hv; simp at hv; subst hv; rfl
 mono:=fun _ h=>h
def RS:Rp ByteArray where
 size:=1
 cells:=fun _ l n=>l= [.string n]
 len:=fun h=>by simp [h]
 one:=fun h v hv=>by rw [h] at hv; simp at hv; subst hv; rfl
 mono:=fun _ h=>h
def Sl {α:Type}(R:Rp α) (c:Cx) (v:Value) (xs:List α):Prop:=
 ∃a cap,v= .slice a xs.length cap/\xs.length<=cap/\cap<=maxLen/\
  ∀i x,xs[i]? = some x->∃b off l,a=some ⟨b,off,none⟩/\R.cells c l x/\∀j u,l[j]? = some u->Im c b (off+i*R.size+j) u
theorem Sl.lw {α:Type}{R:Rp α}{c c':Cx}{v:Value}{xs:List α}(h:Sl R c v xs) (k:c.lw c'):Sl R c' v xs:=by
 obtain ⟨a,cap,h1,h2,h3,h4⟩:=h;refine ⟨a,cap,h1,h2,h3,fun i x hx=>?_⟩;obtain ⟨b,off,l,e,hl,hc⟩:=h4 i x hx;exact ⟨b,off,l,e,R.mono k hl,fun j u hu=>(hc j u hu).lw k⟩
theorem Sl.mono {α:Type}{R:Rp α}{c c':Cx}{v:Value}{xs:List α}(h:Sl R c v xs) (k:c.le c'):Sl R c' v xs:=h.lw k.lw
theorem Sl.one {α:Type}{R:Rp α}{c:Cx}{v:Value}{xs:List α}(h:Sl R c v xs):v.oneCell'=true:=by
 obtain ⟨a,cap,rfl,_⟩:=h; rfl
theorem Sl.len_le {α:Type}{R:Rp α}{c:Cx}{v:Value}{xs:List α}(h:Sl R c v xs):xs.length<=9223372036854775807:=by
 obtain ⟨a,cap,_,h1,h2,_⟩:=h;unfold maxLen at h2;omega
theorem Sl.nil {α:Type}(R:Rp α) (c:Cx) (a:Option Addr) (cap:Nat) (h:cap<=maxLen):Sl R c (.slice a 0 cap) []:=
 ⟨a,cap,rfl,dk _,h,fun i x hx=>by simp at hx⟩
theorem Sl.nl {α:Type}(R:Rp α) (c:Cx):Sl R c (.slice none 0 0) []:=Sl.nil R c none 0 (dk _)
def RL {α:Type}(R:Rp α):Rp (List α) where
 size:=1
 cells:=fun c l xs=>∃v,l= [v]/\Sl R c v xs
 len:=fun ⟨v,h,_⟩=>by simp [h]
 one:=fun ⟨v,h,hs⟩ u hu=>by rw [h] at hu; simp at hu; subst hu; exact hs.one
 mono:=fun k ⟨v,h,hs⟩=>⟨v,h,hs.lw k⟩
def Pt (g:Nat) (c:Cx) (v:Value):Option Nat->Prop
 | none=>v= .pointer none
 | some k=>∃b,v= .pointer (some ⟨b,0,none⟩)/\c.t g k=some b
theorem Pt.lw {g:Nat}{c c':Cx}{v:Value}{p:Option Nat}(h:Pt g c v p) (k:c.lw c'):Pt g c' v p:=by
 cases p with
 | none=>exact h
 | some p=>obtain ⟨b,h1,h2⟩:=h; exact ⟨b,h1,k.t _ _ _ h2⟩
theorem Pt.mono {g:Nat}{c c':Cx}{v:Value}{p:Option Nat}(h:Pt g c v p) (k:c.le c'):Pt g c' v p:=h.lw k.lw
theorem Pt.one {g:Nat}{c:Cx}{v:Value}{p:Option Nat}(h:Pt g c v p):v.oneCell'=true:=by
 cases p with
 | none=>obtain rfl:=h; rfl
 | some p=>obtain ⟨b,rfl,_⟩:=h; rfl
def RP (g:Nat):Rp (Option Nat) where
 size:=1
 cells:=fun c l p=>∃v,l= [v]/\Pt g c v p
 len:=fun ⟨v,h,_⟩=>by simp [h]
 one:=fun ⟨v,h,hs⟩ u hu=>by rw [h] at hu; simp at hu; subst hu; exact hs.one
 mono:=fun k ⟨v,h,hs⟩=>⟨v,h,hs.lw k⟩
theorem Pt.get {g:Nat}{c:Cx}{v:Value}{p:Option Nat}{k:Nat}(h:Pt g c v p) (hp:p=some k):∃b,v= .pointer (some ⟨b,0,none⟩)/\c.t g k=some b:=by subst hp; exact h
theorem Pt.get2 {g:Nat}{c:Cx}{b k:Nat}{p:Option Nat}(h:Pt g c (.pointer (some ⟨b,0,none⟩)) p) (hp:p=some k):c.t g k=some b:=by
 subst hp;obtain ⟨b',h1,h2⟩:=h;cases h1;exact h2
inductive Er where
 | nil
 | sent (g:Nat)
 | fault (i:Int) (e:Er)
structure Fz (c:Cx) (b:Nat):Prop where
 lt:b<c.w.heap.size
 nA:∀o,¬c.A b o
 blk:∃vs T,c.w.heap[b]? = some (.cells vs T (0,0))
theorem Fz.lw {c c':Cx}{b:Nat}(h:Fz c b) (k:c.lw c'):Fz c' b:=by
 obtain ⟨vs,T,hb⟩:=h.blk;exact ⟨eJ h.lt k.size,fun o=>(k.cell b o h.lt (h.nA o)).2,vs,T,(k.block b _ _ _ hb h.nA).trans hb⟩
theorem Fz.mono {c c':Cx}{b:Nat}(h:Fz c b) (k:c.le c'):Fz c' b:=h.lw k.lw
def RE (S T:TypeId) (c:Cx):Value->Er->Prop
 | v,.nil=>v= .nilIface
 | v,.sent g=>∃a,v= .iface S (.pointer (some a))/\Im c g 0 v/\Fz c a.block
 | v,.fault i e=>∃b u,v= .iface T (.pointer (some ⟨b,0,none⟩))/\Im c b 0 (.int .i64 i)/\Im c b 1 u/\RE S T c u e
theorem RE.lw {S T:TypeId}{c c':Cx}{v:Value}{e:Er}(h:RE S T c v e) (k:c.lw c'):RE S T c' v e:=by
 induction e generalizing v with
 | nil=>exact h
 | sent g=>obtain ⟨b,h,hi,hf⟩:=h; exact ⟨b,h,hi.lw k,hf.lw k⟩
 | fault i e ih=>obtain ⟨b,u,h,h1,h2,h3⟩:=h; exact ⟨b,u,h,h1.lw k,h2.lw k,ih h3⟩
theorem RE.mono {S T:TypeId}{c c':Cx}{v:Value}{e:Er}(h:RE S T c v e) (k:c.le c'):RE S T c' v e:=h.lw k.lw
theorem RE.one {S T:TypeId}{c:Cx}{v:Value}{e:Er}(h:RE S T c v e):v.oneCell'=true:=by
 cases e with
 | nil=>obtain rfl:=h; rfl
 | sent g=>obtain ⟨b,rfl,_⟩:=h; rfl
 | fault i e=>obtain ⟨b,u,rfl,_⟩:=h; rfl
theorem RE.im {S T:TypeId}{c:Cx}{v:Value}{g:Nat}(h:RE S T c v (.sent g)):Im c g 0 v:=by
 obtain ⟨b,_,h,_⟩:=h; exact h
def Er.isNil:Er->Bool
 | .nil=>true
 | _=>false
def sb:Value->Nat
 | .slice (some a) _ _=>a.block
 | _=>0
def so:Value->Nat
 | .slice (some a) _ _=>a.off
 | _=>0
theorem Sl.at {α:Type}{R:Rp α}{c:Cx}{v:Value}{xs:List α}(h:Sl R c v xs){i:Nat}{x:α}(hx:xs[i]? = some x):
  ∃l,R.cells c l x/\∀j u,l[j]? = some u->Im c (sb v) (so v+i*R.size+j) u:=by
 obtain ⟨a,cap,rfl,_,_,h4⟩:=h;obtain ⟨b,off,l,rfl,hl,hc⟩:=h4 i x hx;exact ⟨l,hl,hc⟩
def idx {α:Type}(xs:List α) (i:Int):Option α:=if 0<=i then xs[i.toNat]? else none
def slc {α:Type}(xs:List α) (i j:Int):Option (List α):=if 0<=i/\i<=j/\j<=xs.length then some ((xs.drop i.toNat).take (j-i).toNat) else none
def far:Nat:=1099511627776
def app {α:Type}(xs ys:List α):Option (List α):=if xs.length+ys.length<=far then some (xs++ys) else none
def rep {α:Type}(n:Int) (x:α):Option (List α):=if 0<=n/\n<=far then some (List.replicate n.toNat x) else none
def pJ {α:Type}(xs:List α) (i:Int) (x:α):Option (List α):=if 0<=i/\i<xs.length then some (xs.set i.toNat x) else none
theorem aP {α:Type}{xs:List α}{i:Int}{x:α}(h:idx xs i=some x):xs[i.toNat]? = some x:=by
 unfold idx at h;split at h
 ·exact h
 ·cases h
theorem vY {α:Type}{xs:List α}{i:Int}{x:α}(h:idx xs i=some x):0<=i/\i<xs.length:=by
 have:=aP h;unfold idx at h;split at h
 ·have:=(List.getElem?_eq_some_iff.1 this).1;omega
 ·cases h
structure En where
 v:Value
 T:TypeId
 vs:List Value
 lim:Nat
def blk:Value->Option Nat
 | .pointer (some a)=>some a.block
 | .slice (some a) _ _=>some a.block
 | _=>none
def En.on (e:En) (c:Cx):Prop:=∀b,blk e.v=some b->c.w.heap[b]? = some (.cells e.vs.toArray e.T (0,0))/\∀o,c.A b o↔e.lim<=o
def apart (e e':En):Prop:=∀b,blk e.v=some b->blk e'.v=some b->False
def wT:En:=⟨.nilIface,0,[],0⟩
abbrev Gm:=Nat->Nat->List En
def at_ (G:Gm) (F:List En):Nat ⊕ (Nat×Nat×Nat)->Option En
 | .inl k=>F[k]?
 | .inr (g,k,r)=>(G g k)[r]?
def pS {ι:Type}(c:Cx) (M:ι->Option En):Prop:=(∀i e,M i=some e->e.on c)/\∀i j e e',M i=some e->M j=some e'->i≠j->apart e e'
theorem En.on.lt {e:En}{c:Cx}{b:Nat}(h:e.on c) (hb:blk e.v=some b):b<c.w.heap.size:=(Array.getElem?_eq_some_iff.1 (h b hb).1).1
theorem En.on.keep {e:En}{c c':Cx}(h:e.on c) (k:∀b,blk e.v=some b->c'.w.heap[b]? = c.w.heap[b]?/\∀o,c'.A b o↔c.A b o):e.on c':=fun b hb=>
 ⟨(k b hb).1.trans (h b hb).1,fun o=>((k b hb).2 o).trans ((h b hb).2 o)⟩
theorem Dk (c:Cx):wT.on c:=fun b hb=>by cases hb
theorem xX (e:En):apart wT e:=fun b hb=>by cases hb
theorem yA (e:En):apart e wT:=fun b _ hb=>by cases hb
theorem pS.upd {ι:Type}{c c':Cx}{M M':ι->Option En}(h:pS c M) (i:ι){D:Nat->Prop}(hb:c.but D c') (hD:∀b,D b->∃e,M i=some e/\blk e.v=some b) (hM:∀j,j≠i->M' j=M j)
  {e':En}(hi:M' i=some e') (hon:e'.on c') (hnew:∀b,blk e'.v=some b->(∃e,M i=some e/\blk e.v=some b)\/c.w.heap.size<=b):pS c' M':=by
 have key:∀j e,j≠i->M' j=some e->e.on c':=fun j e hj he=>by
  rw [hM j hj] at he;refine (h.1 j e he).keep fun b hbe=>hb.same b ((h.1 j e he).lt hbe) fun hd=>?_;obtain ⟨e2,h2,h3⟩:=hD b hd;exact h.2 j i e e2 he h2 hj b hbe h3
 have far:∀j e,j≠i->M' j=some e->apart e e':=fun j e hj he b h1 h2=>by
  rw [hM j hj] at he;rcases hnew b h2 with ⟨e2,h3,h4⟩|h3
  ·exact h.2 j i e e2 he h3 hj b h1 h4
  ·exact absurd ((h.1 j e he).lt h1) (Nat.not_lt.2 h3)
 classical
 refine ⟨fun j e he=>?_,fun j k e e2 he he2 hjk=>?_⟩
 ·by_cases hj:j=i
  ·subst hj; rw [hi] at he; cases he; exact hon
  ·exact key j e hj he
 ·by_cases hj:j=i
  ·subst hj;rw [hi] at he; cases he;exact fun b h1 h2=>far k e2 (wx hjk) he2 b h2 h1
  ·by_cases hk:k=i
   ·subst hk; rw [hi] at he2; cases he2; exact far j e hj he
   ·rw [hM j hj] at he; rw [hM k hk] at he2; exact h.2 j k e e2 he he2 hjk
theorem pS.re {ι κ:Type}{c:Cx}{M:ι->Option En}{M':κ->Option En}(h:pS c M) (f:κ->ι) (hf:∀k e,M' k=some e->M (f k)=some e) (inj:∀k k' e e',M' k=some e->M' k'=some e'->f k=f k'->k=k'):pS c M':=
 ⟨fun k e he=>h.1 _ e (hf k e he),fun k k' e e' he he' hne=>h.2 _ _ e e' (hf k e he) (hf k' e' he') fun hh=>hne (inj k k' e e' he he' hh)⟩
structure Own (c:Cx) (G:Gm) (F:List En):Prop where
 m:pS c (at_ G F)
 t0:∀g k,G g k= []->c.t g k=none
section
variable {c c':Cx}{G:Gm}{F:List En}
theorem Own.on (O:Own c G F) (k:Nat){e:En}(h:F[k]? = some e):e.on c:=O.m.1 (.inl k) e h
theorem Own.gon (O:Own c G F){g k:Nat}{E:List En}(hE:G g k=E) (r:Nat){e:En}(h:E[r]? = some e):e.on c:=O.m.1 (.inr (g,k,r)) e (by subst hE; exact h)
theorem Own.keep (O:Own c G F) (h:c.but (fun _=>False) c'):Own c' G F:=
 ⟨⟨fun i e he=>(O.m.1 i e he).keep fun b hb=>h.same b ((O.m.1 i e he).lt hb) id,O.m.2⟩,fun g k hk=>by rw [h.t]; exact O.t0 g k hk⟩
theorem Own.set (O:Own c G F) (k:Nat){e e':En}{D:Nat->Prop}(hk:F[k]? = some e) (hb:c.but D c') (hD:∀b,D b->blk e.v=some b) (hon:e'.on c') (hnew:∀b,blk e'.v=some b->blk e.v=some b\/c.w.heap.size<=b):Own c' G (F.set k e'):=
 ⟨pS.upd O.m (.inl k) hb (fun b h=>⟨e,hk,hD b h⟩) (fun j hj=>by
  cases j with
  | inl j=>exact aW (fun e=>hj (by rw [e]))
  | inr j=>rfl) (e':=e') (bp (List.getElem?_eq_some_iff.1 hk).1) hon (fun b h=>(hnew b h).imp (fun h=>⟨e,hk,h⟩) id),fun g k hk=>by rw [hb.t]; exact O.t0 g k hk⟩
theorem Own.sel {F0:List En}{L:List En}(ix:List Nat) (O:Own c G (L++F0)) (hn:ix.Nodup){L':List En}(hL:ix.map (fun i=>L[i]?)=L'.map some):Own c G (L'++F0):=by
 have hlen:ix.length=L'.length:=by have:=nb List.length hL; simpa using this
 have hget:∀(i:Nat) (hi:i<ix.length),L[ix[i]]? = some (L'[i]'(hlen▸ hi)):=fun i hi=>by
  have:=nb (fun l=>l[i]?) hL;simpa [af hi,af (hlen▸ hi:i<L'.length)] using this
 refine ⟨pS.re O.m (fun j=>match j with
  | .inl j=>if h:j<ix.length then .inl ix[j] else .inl (j-ix.length+L.length)
  | .inr j=> .inr j) ?_ ?_,O.t0⟩
 ·intro j e he
  cases j with
  | inr j=>exact he
  | inl j=>
   by_cases hj:j<ix.length
   ·simp only [hj,we];have h2:=hget j hj;have hlt:=(List.getElem?_eq_some_iff.1 h2).1;simp only [at_] at he|-;rw [aC (hlen▸ hj),af (hlen▸ hj)] at he;rw [aC hlt,h2,he]
   ·simp only [hj,yB,tR];simp only [at_] at he|-;rw [be (by omega)] at he;rw [be (by omega),<-he]
    congr 1
    omega
 ·intro j j' e e' he he' hh
  cases j with
  | inr j=>
   cases j' with
   | inr j'=>exact hh
   | inl j'=>by_cases hj:j' < ix.length <;> simp [hj] at hh
  | inl j=>
   cases j' with
   | inr j'=>by_cases hj:j<ix.length <;> simp [hj] at hh
   | inl j'=>
    by_cases hj:j<ix.length
    ·have h1:=(List.getElem?_eq_some_iff.1 (hget j hj)).1;by_cases hj':j' < ix.length
     ·simp only [hj,hj',we,uC] at hh;rw [(List.getElem_inj hn).1 hh]
     ·simp only [hj,hj',we,yB,tR,uC] at hh;omega
    ·by_cases hj':j' < ix.length
     ·have h1:=(List.getElem?_eq_some_iff.1 (hget j' hj')).1;simp only [hj,hj',we,yB,tR,uC] at hh;omega
     ·simp only [hj,hj',yB,tR,uC] at hh
      congr 1
      omega
theorem Own.cons (O:Own c G F){e:En}{D:Nat->Prop}(hb:c.but D c') (hD:∀b,¬D b) (hon:e.on c') (hnew:∀b,blk e.v=some b->c.w.heap.size<=b):Own c' G (e::F):=by
 have O1:pS c (at_ G (wT::F)):=by
  refine ⟨fun i e he=>?_,fun i j e e' he he' hij=>?_⟩
  ·cases i with
   | inr i=>exact O.m.1 (.inr i) e he
   | inl i=>cases i with
    | zero=>cases he; exact Dk c
    | succ i=>exact O.m.1 (.inl i) e he
  ·have pull:∀i,i≠ .inl 0->∀e,at_ G (wT::F) i=some e->∃i',at_ G F i'=some e/\(match i' with|.inl k=>i= .inl (k+1)|.inr k=>i= .inr k):=fun i hi e he=>by
    cases i with
    | inr i=>exact ⟨.inr i,he,rfl⟩
    | inl i=>cases i with
     | zero=>exact absurd rfl hi
     | succ i=>exact ⟨.inl i,he,rfl⟩
   by_cases hi:i= .inl 0
   ·subst hi; cases he; exact xX _
   ·by_cases hj:j= .inl 0
    ·subst hj; cases he'; exact yA _
    ·obtain ⟨i',h1,h2⟩:=pull i hi e he;obtain ⟨j',h3,h4⟩:=pull j hj e' he';refine O.m.2 i' j' e e' h1 h3 fun hh=>hij ?_;subst hh
     cases i' <;> simp_all
 exact ⟨pS.upd O1 (.inl 0) hb (fun b h=>absurd h (hD b)) (fun j hj=>by
  cases j with
  | inr j=>rfl
  | inl j=>cases j with
   | zero=>exact absurd rfl hj
   | succ j=>rfl) (e':=e) rfl hon (fun b h=> .inr (hnew b h)),fun g k hk=>by rw [hb.t]; exact O.t0 g k hk⟩
theorem Own.addHole (O:Own c G F){e:En}(he:blk e.v=none):Own c G (e::F):=
 O.cons (D:=fun _=>False) ⟨Cx.le.refl c,rfl,fun _ _ _=>⟨rfl,fun _=>wB⟩⟩ (fun _=>id) (fun b hb=>by rw [he] at hb; cases hb) (fun b hb=>by rw [he] at hb; cases hb)
theorem Own.tail {e:En}(O:Own c G (e::F)):Own c G F:=
 ⟨pS.re O.m (fun j=>match j with|.inl j=> .inl (j+1)|.inr j=> .inr j) (fun j e he=>by cases j <;> exact he) (fun j j' _ _ _ _ h=>by
  cases j <;> cases j' <;> simp_all),O.t0⟩
def jS (G:Gm) (g k:Nat) (E:List En):Gm:=fun g' k'=>if g'=g/\k'=k then E else G g' k'
theorem cQ (G:Gm) (g k:Nat) (E:List En):jS G g k E g k=E:=by simp [jS]
theorem xt {c:Cx}{G:Gm}{g k:Nat}{E:List En}(h:∀g k,G g k= []->c.t g k=none) (hE:E= []->G g k= []):∀g' k',jS G g k E g' k'= []->c.t g' k'=none:=fun g' k' h'=>by
 simp only [jS] at h';split at h'
 ·rename_i hh
  obtain ⟨rfl,rfl⟩:=hh;exact h _ _ (hE h')
 ·exact h _ _ h'
theorem zP {α:Type}{E:List α}{r:Nat}{e:α}(h:E.set r e= []):E= []:=by
 have:=nb List.length h;rw [cq] at this;exact dm this
theorem eL {G:Gm}{g k g' k':Nat}{E:List En}(h:¬(g'=g/\k'=k)):jS G g k E g' k'=G g' k':=by simp only [jS,ab h]
theorem Own.setR (O:Own c G F){g k:Nat}{E:List En}(r:Nat){e e':En}{D:Nat->Prop}(hE:G g k=E) (hr:E[r]? = some e) (hb:c.but D c') (hD:∀b,D b->blk e.v=some b) (hon:e'.on c') (hnew:∀b,blk e'.v=some b->blk e.v=some b\/c.w.heap.size<=b):
  Own c' (jS G g k (E.set r e')) F:=by
 subst hE;refine ⟨pS.upd O.m (.inr (g,k,r)) hb (fun b h=>⟨e,hr,hD b h⟩) (fun j hj=>?_) (e':=e') ?_ hon (fun b h=>(hnew b h).imp (fun h=>⟨e,hr,h⟩) id),xt (fun g k hk=>by rw [hb.t]; exact O.t0 g k hk) zP⟩
 ·cases j with
  | inl j=>rfl
  | inr j=>
   obtain ⟨g',k',r'⟩:=j;by_cases h:g'=g/\k'=k
   ·obtain ⟨rfl,rfl⟩:=h;simp only [at_,cQ];exact aW (fun e=>hj (by rw [e]))
   ·simp only [at_,eL h]
 ·simp only [at_,cQ];exact bp (List.getElem?_eq_some_iff.1 hr).1
theorem Own.borrow (O:Own c G F){g k:Nat}{E:List En}(r:Nat){e:En}(hE:G g k=E) (hr:E[r]? = some e):Own c (jS G g k (E.set r wT)) (e::F):=by
 subst hE;have hlt:=(List.getElem?_eq_some_iff.1 hr).1;have main:∀g' k' r' e1,at_ (jS G g k ((G g k).set r wT)) (e::F) (.inr (g',k',r'))=some e1->(g',k',r')≠(g,k,r)->at_ G F (.inr (g',k',r'))=some e1:=fun g' k' r' e1 h1 hne=>by
  simp only [at_] at h1|-;by_cases h:g'=g/\k'=k
  ·obtain ⟨rfl,rfl⟩:=h;rw [cQ,aW (fun e=>hne (by rw [e]))] at h1;exact h1
  ·rwa [eL h] at h1
 have hh:∀e1,at_ (jS G g k ((G g k).set r wT)) (e::F) (.inr (g,k,r))=some e1->e1=wT:=fun e1 h1=>by
  simp only [at_,cQ] at h1;rw [bp hlt] at h1
  cases h1; rfl
 classical
 let f:Nat ⊕ (Nat×Nat×Nat)->Nat ⊕ (Nat×Nat×Nat):=fun j=>match j with
  | .inl 0=> .inr (g,k,r)
  | .inl (j+1)=> .inl j
  | .inr j=> .inr j
 have hf:∀j e1,j≠ .inr (g,k,r)->at_ (jS G g k ((G g k).set r wT)) (e::F) j=some e1->at_ G F (f j)=some e1:=fun j e1 hj he=>by
  cases j with
  | inl j=>cases j with
   | zero=>cases he; exact hr
   | succ j=>exact he
  | inr j=>exact main j.1 j.2.1 j.2.2 e1 he (fun e=>hj (by rw [<-e]))
 refine ⟨⟨fun j e1 he=>?_,fun j j' e1 e2 he he2 hne=>?_⟩,xt O.t0 zP⟩
 ·by_cases hj:j= .inr (g,k,r)
  ·subst hj; rw [hh e1 he]; exact Dk c
  ·exact O.m.1 (f j) e1 (hf j e1 hj he)
 ·by_cases hj:j= .inr (g,k,r)
  ·subst hj; rw [hh e1 he]; exact xX _
  ·by_cases hj':j'= .inr (g,k,r)
   ·subst hj'; rw [hh e2 he2]; exact yA _
   ·refine O.m.2 (f j) (f j') e1 e2 (hf j e1 hj he) (hf j' e2 hj' he2) fun hff=>?_
    cases j with
    | inl j=>cases j with
     | zero=>cases j' with
      | inl j'=>cases j' with
       | zero=>exact hne rfl
       | succ j'=>simp [f] at hff
      | inr j'=>exact hj' (by simpa [f] using hff.symm)
     | succ j=>cases j' with
      | inl j'=>cases j' with
       | zero=>simp [f] at hff
       | succ j'=>exact hne (by simpa [f] using hff)
      | inr j'=>simp [f] at hff
    | inr j=>cases j' with
     | inl j'=>cases j' with
      | zero=>exact hj (by simpa [f] using hff)
      | succ j'=>simp [f] at hff
     | inr j'=>exact hne (by simpa [f] using hff)
theorem Own.give {e:En}(O:Own c G (e::F)){g k:Nat}{E:List En}(r:Nat){e0:En}(hE:G g k=E) (hr:E[r]? = some e0):Own c (jS G g k (E.set r e)) F:=by
 subst hE;have hlt:=(List.getElem?_eq_some_iff.1 hr).1
 classical
 let f:Nat ⊕ (Nat×Nat×Nat)->Nat ⊕ (Nat×Nat×Nat):=fun j=>match j with
  | .inl j=> .inl (j+1)
  | .inr j=>if j=(g,k,r) then .inl 0 else .inr j
 refine ⟨pS.re O.m f (fun j e1 he=>?_) (fun j j' e1 e2 he he2 hff=>?_),xt O.t0 zP⟩
 ·cases j with
  | inl j=>exact he
  | inr j=>
   obtain ⟨g',k',r'⟩:=j;by_cases h0:(g',k',r')=(g,k,r)
   ·simp only [ib] at h0;obtain ⟨rfl,rfl,rfl⟩:=h0;simp only [at_,cQ] at he;rw [bp hlt] at he;simp only [f,ae];exact he
   ·simp only [f,ab h0];simp only [at_] at he|-;by_cases h:g'=g/\k'=k
    ·obtain ⟨rfl,rfl⟩:=h;rw [cQ,aW (fun e=>h0 (by rw [e]))] at he;exact he
    ·rwa [eL h] at he
 ·cases j with
  | inl j=>cases j' with
   | inl j'=>simpa [f] using hff
   | inr j'=>by_cases h:j'=(g,k,r) <;> simp [f,h] at hff
  | inr j=>cases j' with
   | inl j'=>by_cases h:j=(g,k,r) <;> simp [f,h] at hff
   | inr j'=>
    by_cases h:j=(g,k,r)
    ·by_cases h':j'=(g,k,r)
     ·rw [h,h']
     ·simp [f,h,h'] at hff
    ·by_cases h':j'=(g,k,r)
     ·simp [f,h,h'] at hff
     ·simpa [f,h,h'] using hff
theorem zh (G:Gm) (g k:Nat) (E E':List En):jS (jS G g k E) g k E'=jS G g k E':=by
 funext g' k'
 simp only [jS];split <;> rfl
theorem Own.giveB {e:En}{g k:Nat}{E:List En}(r:Nat){e0:En}(O:Own c (jS G g k E) (e::F)) (hr:E[r]? = some e0):Own c (jS G g k (E.set r e)) F:=by
 have:=Own.give O r (cQ G g k E) hr
 rwa [zh] at this
theorem pS.newObj {E:List En}(O:pS c (at_ G (E++F))){g k:Nat}(hE:G g k= []):pS c (at_ (jS G g k E) F):=by
 classical
 let f:Nat ⊕ (Nat×Nat×Nat)->Nat ⊕ (Nat×Nat×Nat):=fun j=>match j with
  | .inl j=> .inl (j+E.length)
  | .inr j=>if j.1=g/\j.2.1=k then .inl j.2.2 else .inr j
 have hr:∀r e,at_ (jS G g k E) F (.inr (g,k,r))=some e->r<E.length:=fun r e he=>by
  simp only [at_,cQ] at he;exact (List.getElem?_eq_some_iff.1 he).1
 refine pS.re O f (fun j e1 he=>?_) (fun j j' e1 e2 he he2 hff=>?_)
 ·cases j with
  | inl j=>
   simp only [f,at_] at he|-;rw [be (by omega)];rw [<-he]; congr 1; omega
  | inr j=>
   obtain ⟨g',k',r'⟩:=j;by_cases h:g'=g/\k'=k
   ·simp only [f,ae h];obtain ⟨rfl,rfl⟩:=h;have:=hr _ _ he;simp only [at_,cQ] at he|-;rw [aC this]; exact he
   ·simp only [f,ab h];simp only [at_,eL h] at he|-;exact he
 ·cases j with
  | inl j=>cases j' with
   | inl j'=>simpa [f] using hff
   | inr j'=>
    obtain ⟨g',k',r'⟩:=j';by_cases h:g'=g/\k'=k
    ·obtain ⟨rfl,rfl⟩:=h;have:=hr _ _ he2;simp [f] at hff;omega
    ·simp [f,h] at hff
  | inr j=>
   obtain ⟨g1,k1,r1⟩:=j
   cases j' with
   | inl j'=>
    by_cases h:g1=g/\k1=k
    ·obtain ⟨rfl,rfl⟩:=h;have:=hr _ _ he;simp [f] at hff;omega
    ·simp [f,h] at hff
   | inr j'=>
    obtain ⟨g',k',r'⟩:=j';by_cases h:g1=g/\k1=k
    ·by_cases h':g'=g/\k'=k
     ·simp only [f,ae h,ae h',uC] at hff;obtain ⟨rfl,rfl⟩:=h;obtain ⟨rfl,rfl⟩:=h';rw [hff]
     ·simp [f,h,h'] at hff
    ·by_cases h':g'=g/\k'=k
     ·simp [f,h,h'] at hff
     ·simpa [f,h,h'] using hff
theorem Own.newObj {E:List En}(O:Own c G (E++F)){g k b:Nat}(hE:G g k= []) (hne:E≠ []):∃c',(c'.w=c.w/\c'.A=c.A)/\c.le c'/\c'.t g k=some b/\Own c' (jS G g k E) F:=by
 have ht:∀g' k' b',c.t g' k'=some b'->¬(g'=g/\k'=k):=fun g' k' b' h hh=>by
  obtain ⟨rfl,rfl⟩:=hh;rw [O.t0 _ _ hE] at h;cases h
 refine ⟨⟨c.w,c.A,fun g' k'=>if g'=g/\k'=k then some b else c.t g' k'⟩,⟨rfl,rfl⟩,⟨rfl,rfl,av _,fun _ _ _ h=>⟨rfl,h⟩,fun _ _ _=>rfl,fun _ _ _=>rfl,fun g' k' b' h=>?_⟩,by simp,⟨pS.newObj O.m hE,fun g' k' h=>?_⟩⟩
 ·simp only [ab (ht g' k' b' h)];exact h
 ·simp only [jS] at h|-;split at h
  ·exact absurd h hne
  ·rename_i hh
   simp only [ab hh];exact O.t0 _ _ h
structure Rl {α:Type}(Y:Cx->Option Nat->List En->α->Prop) (g:Nat) (c:Cx) (G:Gm) (xs:List α):Prop where
 ob:∀k x,xs[k]? = some x->Y c (c.t g k) (G g k) x
 no:∀k,xs.length<=k->G g k= []
variable {α:Type}{Y:Cx->Option Nat->List En->α->Prop}{g:Nat}{xs:List α}
theorem Rl.mono (h:Rl Y g c G xs) (hm:∀b E x,Y c (some b) E x->Y c' (some b) E x) (hs:∀E x,¬Y c none E x) (hk:c.lw c'):Rl Y g c' G xs:=
 ⟨fun k x hx=>by
  have:=h.ob k x hx
  cases hb:c.t g k with
  | none=>rw [hb] at this; exact absurd this (hs _ _)
  | some b=>rw [hb] at this; rw [hk.t g k b hb]; exact hm b _ _ this,h.no⟩
theorem Rl.set (h:Rl Y g c G xs){k:Nat}{E:List En}{x:α}(hk:k<xs.length) (hY:Y c (c.t g k) E x):Rl Y g c (jS G g k E) (xs.set k x):=
 ⟨fun j y hy=>by
  by_cases hj:j=k
  ·subst hj;rw [bp hk] at hy;cases hy;rw [cQ]; exact hY
  ·rw [aW (wx hj)] at hy;rw [eL (fun e=>hj e.2)];exact h.ob j y hy,fun j hj=>by
  rw [cq] at hj;rw [eL (fun e=>by omega)];exact h.no j hj⟩
theorem Rl.other (h:Rl Y g c G xs){g' k:Nat}{E:List En}(hne:g≠g'):Rl Y g c (jS G g' k E) xs:=
 ⟨fun j y hy=>by rw [eL (fun e=>hne e.1)]; exact h.ob j y hy,fun j hj=>by rw [eL (fun e=>hne e.1)]; exact h.no j hj⟩
theorem Rl.new (h:Rl Y g c G xs){E:List En}{x:α}(hY:Y c (c.t g xs.length) E x):Rl Y g c (jS G g xs.length E) (xs++ [x]):=
 ⟨fun j y hy=>by
  by_cases hj:j=xs.length
  ·subst hj;rw [be (av _)] at hy;simp at hy;subst hy;rw [cQ]; exact hY
  ·have hlt:j<xs.length:=by
    have:=(List.getElem?_eq_some_iff.1 hy).1;rw [ax] at this;simp at this;omega
   rw [aC hlt] at hy;rw [eL (fun e=>hj e.2)];exact h.ob j y hy,fun j hj=>by
  rw [ax] at hj;simp at hj;rw [eL (fun e=>by omega)];exact h.no j (by omega)⟩
end
end Go.Lt
namespace Go.Lt
def aI (c:Cx) (X:Cx->Value->Prop):Ending->World->Prop:=fun x w=>∃v c',x= .returned v/\w=c'.w/\c.le c'/\X c' v
def Kp (G:Gm) (N:List En) (c:Cx):Prop:=∀i e,at_ G N i=some e->e.on c
theorem Kp.nil {c:Cx}{G:Gm}{F:List En}(O:Own c G F):Kp G [] c:=fun i e h=>by
 cases i with
 | inl i=>simp [at_] at h
 | inr i=>exact O.m.1 (.inr i) e h
def G0:Gm:=fun _ _=>[]
theorem Kp.nil0 {c:Cx}:Kp G0 [] c:=fun i e h=>by
 cases i <;> simp [at_,G0] at h
theorem Kp.cons {c:Cx}{G:Gm}{N:List En}{e:En}(h:e.on c) (k:Kp G N c):Kp G (e::N) c:=fun i e' h'=>by
 cases i with
 | inl i=>cases i with
  | zero=>cases h'; exact h
  | succ i=>exact k (.inl i) e' h'
 | inr i=>exact k (.inr i) e' h'
theorem Kp.on {c:Cx}{G:Gm}{N:List En}(h:Kp G N c) (k:Nat){e:En}(hk:N[k]? = some e):e.on c:=h (.inl k) e hk
theorem Kp.gon {c:Cx}{G:Gm}{N:List En}(h:Kp G N c){g k:Nat}{E:List En}(hE:G g k=E) (r:Nat){e:En}(hr:E[r]? = some e):e.on c:=h (.inr (g,k,r)) e (by subst hE; exact hr)
def KN (ops:Array Oper) (li:List Bool) (i:Nat) (B:List Nat):List Nat:=
 (List.range ops.size).filter fun j=> !li.getD j true && !(j==i) && (ops[j]?).any fun o=>o.after.any fun x=>Region.binds .any x && ((x.on==i && !li.getD i true) || B.contains x.on)
def Fh (ops:Array Oper) (li:List Bool) (i:Nat):Nat->List Nat
 | 0=>[]
 | n+1=>KN ops li i (Fh ops li i n)
def okB (ops:Array Oper) (li:List Bool) (i:Nat) (D:List Nat):Bool:=
 let B:=Fh ops li i ops.size
 B.all (fun j=> !li.getD j true && !(j==i) && (ops[j]?).any fun o=>o.after.any fun x=>Region.binds .any x && (x.on==i || B.contains x.on)) && D.all fun j=>li.getD j true || B.contains j
section
variable {P:Program}{ops:Array Oper}{n:Fr}{r:Option Nat}{Q:Exit->(Nat->Value)->World->Prop}{D:List Nat}{K:Cx->Prop}
def tM (r:Option Nat) (D:List Nat) (K:Cx->Prop) (P:Program) (ops:Array Oper) (Q:Exit->Act->World->Prop):Nat->Array Bool->Act->Cx->Prop
 | 0,listed,a,c=>Region.ready .any ops listed= []/\Q .normal a c.w
 | fuel+1,listed,a,c=>(Region.ready .any ops listed= []->Q .normal a c.w)/\
  ∀i∈Region.ready .any ops listed,wpOpIn (fen r) 0 P ops Q i (fun a' w=>∃c',w=c'.w/\c.le c'/\(i∈D\/(K c->K c'))/\tM r D K P ops Q fuel (listed.setIfInBounds i true) a' c') a c.w
theorem tM.sound {Q:Exit->Act->World->Prop}:∀(fuel:Nat) (listed:Array Bool) (a:Act) (c:Cx),tM r D K P ops Q fuel listed a c->wpAnyIn (fen r) 0 P .any ops Q fuel listed a c.w
 | 0,_,_,_,h=>h
 | _+1,_,_,_,h=>⟨h.1,fun i hi=>wpOpIn_mono (fun a w ⟨c',hw,_,_,h'⟩=>by subst hw; exact tM.sound _ _ _ _ h') (h.2 i hi)⟩
def Yl (Z:Cx->Prop) (P:Program) (ops:Array Oper) (o:Oper) (v:Value) (a:Act) (c:Cx):Prop:=
 (Region.wanted o (yielded ops a.tmps)=true/\∀c',c.le c'->Z c'->(execOp a.eval o).run P c'.w= .ok (.value v) c'.w)\/
 (Region.wanted o (yielded ops a.tmps)=false/\v=undef)
theorem DR (o:Oper) (hs:∀cs b,o.op≠ .select cs b) (a:Act) (dst:Option Tmp) (v:Value) (h:∀d,dst=some d->d∉o.looksAt ops):
  o.semAt r (a.put dst v).eval=o.semAt r a.eval:=by
 by_cases hd:∀c,o.op≠ .defer c
 ·rw [I5 _ _ _ hd,I5 _ _ _ hd];exact Ma o hs a dst v h
 ·obtain ⟨c,hc⟩:=Classical.not_forall.1 hd;have hc:=Classical.not_not.1 hc;have he:resolve (a.put dst v).eval c o.type=resolve a.eval c o.type:=resolve_congr c o.type fun x hx=>Act.eval_put fun d hd hxd=>h d hd (by
   subst hxd;exact dQ _ (List.mem_filterMap.2 ⟨.tmp d,by rw [hc]; simpa [Op.operands] using hx,rfl⟩))
  cases r with
  | none=>exact Ma o hs a dst v h
  | some l=>
   unfold Oper.semAt;rw [hc];simp only [he]
theorem Yl.wpOp {Z:Cx->Prop}{i:Nat}{o:Oper}{v:Value}{a:Act}{c:Cx}(hz:Z c) (hi:ops[i]? = some o) (hy:Yl Z P ops o v a c){Q:Exit->Act->World->Prop}{K:Act->World->Prop}
  (h:K (a.put o.dst v) c.w):wpOpIn (fen r) 0 P ops Q i K a c.w:=by
 unfold Go.wpOpIn;simp only [hi];rcases hy with ⟨hw,hv⟩|⟨hw,rfl⟩
 ·rw [ae hw];refine ⟨fun _ _=>trivial,?_⟩;rw [rY (hv c (Cx.le.refl c) hz) (by simp),Mr];exact h
 ·rw [ab (by rw [hw]; simp)];exact ⟨fun _ _=>trivial,h⟩
def Wt (ops:Array Oper) (listed:Array Bool) (i:Nat) (B:List Nat):Prop:=
 ∀j∈B,listed.getD j true=false/\j≠i/\∃oj,ops[j]? = some oj/\∃x∈oj.after,Region.binds .any x=true/\(x.on=i\/x.on∈B)
theorem zy (l:List Bool) (j:Nat):l.toArray.getD j true=l.getD j true:=by simp [cz,aq]
theorem F4 {l:List Oper}{li:List Bool}{i:Nat}{D:List Nat}(h:okB l.toArray li i D=true):∃B,Wt l.toArray li.toArray i B/\∀j∈D,li.toArray.getD j true=true\/j∈B:=by
 refine ⟨Fh l.toArray li i l.toArray.size,fun j hj=>?_,fun j hj=>?_⟩
 ·simp only [okB,ao,vJ] at h;have:=h.1 j hj;simp only [cy,fe,zt] at this;obtain ⟨⟨h1,h2⟩,h3⟩:=this;refine ⟨by rw [zy]; exact h1,h2,?_⟩
  cases ho:l.toArray[j]? with
  | none=>rw [ho] at h3; cases h3
  | some oj=>
   rw [ho] at h3;simp only [Option.any_some,Array.any_eq_true',ao,aB,aS,KL] at h3;obtain ⟨x,hx,hb,hon⟩:=h3;exact ⟨oj,rfl,x,hx,hb,hon⟩
 ·simp only [okB,ao,vJ] at h;have:=h.2 j hj;simp only [aB,KL] at this;rw [zy];exact this
theorem tM.first {Q:Exit->Act->World->Prop}(hP:∀ch a w,¬Q (.panic ch) a w) (hO:∀a w,¬Q .outgrown a w){i:Nat}{oi:Oper}{v:Value}(hi:ops[i]? = some oi)
  (hsel:∀(j:Nat) (o:Oper) cs b,ops[j]? = some o->o.op≠ .select cs b){Z:Cx->Prop}{B:List Nat}(hZ:(∀c,Z c)\/Z=K):
  ∀(fuel:Nat) (listed:Array Bool) (a:Act) (c:Cx),
   (∀j oj,ops[j]? = some oj->j≠i->listed.getD j true=false->(∀x∈oj.after,Region.binds .any x=true->x.on≠i)->oi.apart ops oj=true)->
   Wt ops listed i B->((∀c,Z c)\/∀j∈D,listed.getD j true=true\/j∈B)->Z c->
   i∈Region.ready .any ops listed->Yl Z P ops oi v a c->
   tM r D K P ops Q fuel (listed.setIfInBounds i true) (a.put oi.dst v) c->tM r D K P ops Q (fuel+1) listed a c:=by
 have notB:∀(listed:Array Bool) j,Wt ops listed i B->i∈Region.ready .any ops listed->j∈Region.ready .any ops listed->j∉B:=fun listed j hW hr hj hB=>by
  obtain ⟨_,_,oj,hoj,x,hx,hb,hon⟩:=hW j hB;obtain ⟨_,oj',hoj',hall⟩:=mem_ready.1 hj;rw [hoj] at hoj';cases hoj';have h1:=hall x hx hb;have h0:listed.getD x.on true=false:=by
   rcases hon with h|h
   ·rw [h]; exact (mem_ready.1 hr).1
   ·exact (hW _ h).1
  rcases aE x.on listed.size with h'|h'
  ·simp [h'] at h0 h1; rw [h0] at h1; cases h1
  ·simp [lL h'] at h1
 intro fuel
 induction fuel with
 | zero=>
  intro listed a c _ hW hD hz hr hy H;refine ⟨fun h=>(by rw [h] at hr; cases hr),fun j hj=>?_⟩;by_cases hji:j=i
  ·subst hji; exact hy.wpOp hz hi ⟨c,rfl,Cx.le.refl c,.inr id,H⟩
  ·have:=L4 hj hji;rw [H.1] at this;cases this
 | succ fuel ih=>
  intro listed a c hfree hW hD hz hr hy H;refine ⟨fun h=>(by rw [h] at hr; cases hr),fun j hj=>?_⟩;by_cases hji:j=i
  ·subst hji; exact hy.wpOp hz hi ⟨c,rfl,Cx.le.refl c,.inr id,H⟩
  ·have h1:=H.2 j (L4 hj hji);obtain ⟨hjun,oj,hoj,hall⟩:=mem_ready.1 hj;have hnot:∀x∈oj.after,Region.binds .any x=true->x.on≠i:=fun x hx hb heq=>by
    have h1:=hall x hx hb;have h0:=(mem_ready.1 hr).1;rw [heq] at h1;rcases aE i listed.size with h'|h'
    ·simp [h'] at h0 h1; rw [h0] at h1; cases h1
    ·simp [lL h'] at h1
   obtain ⟨ha1,ha2,ha3⟩:=Oper.apart_spec (hfree j oj hoj hji hjun hnot);have hfree':∀k ok,ops[k]? = some ok->k≠i->(listed.setIfInBounds j true).getD k true=false->
     (∀x∈ok.after,Region.binds .any x=true->x.on≠i)->oi.apart ops ok=true:=fun k ok hk hki hun hno=>by
    refine hfree k ok hk hki ?_ hno;by_cases hjk:j=k
    ·subst hjk; exact hjun
    ·rw [Li true hjk] at hun; exact hun
   have hW':Wt ops (listed.setIfInBounds j true) i B:=fun k hk=>by
    obtain ⟨h1,h2⟩:=hW k hk;refine ⟨?_,h2⟩;have hjk:j≠k:=fun e=>by subst e; exact notB listed j hW hr hj hk
    rw [Li true hjk];exact h1
   have hD':(∀c,Z c)\/∀k∈D,(listed.setIfInBounds j true).getD k true=true\/k∈B:=hD.imp id fun h k hk=>by
    rcases h k hk with h|h
    ·by_cases hjk:j=k
     ·subst hjk; rw [hjun] at h; cases h
     ·exact .inl (by rw [Li true hjk]; exact h)
    ·exact .inr h
   have keep:∀(b:Act),b.tmps=a.tmps->∀(u:Value) (c':Cx),c.le c'->Yl Z P ops oi v (b.put oj.dst u) c':=fun b hb u c' hc=>by
    have hbe:b.eval=a.eval:=by funext x; cases x <;> simp [Act.eval,hb]
    have he:execOp (b.put oj.dst u).eval oi=execOp a.eval oi:=hbe▸ Ma oi (fun cs b=>hsel i oi cs b hi) _ _ _ ha3;have hw:Region.wanted oi (yielded ops (b.put oj.dst u).tmps)=Region.wanted oi (yielded ops a.tmps):=hb▸ wanted_put oi _ _ _ ha3;unfold Yl at hy|-;rw [he,hw];exact hy.imp (fun ⟨h1,h2⟩=>⟨h1,fun c'' h hz=>h2 c'' (hc.trans h) hz⟩) id
   have fin:∀(b:Act),b.tmps=a.tmps->∀(u:Value) (w:World),(∃c',w=c'.w/\c.le c'/\(j∈D\/(K c->K c'))/\tM r D K P ops Q fuel ((listed.setIfInBounds i true).setIfInBounds j true) ((b.put oi.dst v).put oj.dst u) c')->
     ∃c',w=c'.w/\c.le c'/\(j∈D\/(K c->K c'))/\tM r D K P ops Q (fuel+1) (listed.setIfInBounds j true) (b.put oj.dst u) c':=by
    rintro b hb u w ⟨c',rfl,hle,hk,h⟩;have hz':Z c':=by
     rcases hZ with h|h
     ·exact h c'
     ·rcases hD with h2|h2
      ·exact h2 c'
      ·rcases hk with h3|h3
       ·rcases h2 j h3 with h4|h4
        ·rw [hjun] at h4; cases h4
        ·exact absurd h4 (notB listed j hW hr hj)
       ·subst h; exact h3 hz
    refine ⟨c',rfl,hle,hk,ih _ _ _ hfree' hW' hD' hz' (L4 hr (wx hji)) (keep b hb u c' hle) ?_⟩;rw [Array.setIfInBounds_comm _ _ hji,<-Act.put_comm b v u ha2];exact h
   have he:oj.semAt r (a.put oi.dst v).eval=oj.semAt r a.eval:=DR oj (fun cs b=>hsel j oj cs b hoj) _ _ _ ha1;have hw:Region.wanted oj (yielded ops (a.put oi.dst v).tmps)=Region.wanted oj (yielded ops a.tmps):=wanted_put oj _ _ _ ha1;unfold Go.wpOpIn at h1|-;simp only [hoj] at h1|-;rw [hw] at h1;split
   ·rename_i hww
    rw [ae hww] at h1;refine ⟨fun _ _=>trivial,?_⟩;have h1:=h1.2;have hro:(fen r).round=r:=rfl;rw [hro,he] at h1;rw [hro];generalize (oj.semAt r a.eval).run P c.w=res at h1|-
    cases res with
    | ok x w'=>
     cases x <;> simp only [Oper.uponIn] at h1|-
     case value u=>exact fin a rfl _ _ h1
     case skip=>exact fin a rfl _ _ h1
     case defer d=>rw [Act.put_defers] at h1; exact fin { a with defers:=_::a.defers} rfl _ _ h1
     case enter f args=>
      refine ⟨h1.1,h1.2.mono fun x w'' hx=>?_⟩
      cases x with
      | returned u=>exact fin a rfl _ _ hx
      | panicked ch=>exact absurd hx (hP _ _ _)
      | outgrown=>obtain ⟨a1,w1,h3⟩:=hx; exact absurd h3 (hO _ _)
     case row row args=>exact ⟨h1.1,h1.2.mono fun u w'' hv=>fin a rfl _ _ hv⟩
     case round l f tmps assign body=>
      refine ⟨h1.1,h1.2.mono fun x w'' hx=>?_⟩
      cases x with
      | returned u=>exact fin a rfl _ _ hx
      | panicked ch=>exact absurd hx (hP _ _ _)
      | outgrown=>obtain ⟨a1,w1,h3⟩:=hx; exact absurd h3 (hO _ _)
    | halt x w'=>
     cases x <;> simp only [Oper.uponIn] at h1|-
     case panic u=>exact absurd h1 (hP _ _ _)
   ·rename_i hww
    rw [ab hww] at h1;exact ⟨fun _ _=>trivial,fin a rfl _ _ h1.2⟩
def AC (D:List Nat) (K:Cx->Prop) (P:Program) (l:List Oper) (n:Fr) (Q:Exit->(Nat->Value)->World->Prop) (fuel:Nat) (li:List Bool) (e:Nat->Value) (c:Cx):Prop:=
 tM n.ro D K P l.toArray (Bo n Q) fuel li.toArray (act n e) c
theorem Cx.drew_le (c:Cx):c.but (fun _=>False) ⟨c.w.drew,c.A,c.t⟩:=⟨⟨rfl,rfl,av _,fun _ _ _ h=>⟨rfl,h⟩,fun _ _ _=>rfl,fun _ _ _=>rfl,fun _ _ _ h=>h⟩,rfl,fun _ _ _=>⟨rfl,fun _=>wB⟩⟩
theorem W.regionD (D:List Nat) (K:Cx->Prop){id:Nat}{l:List Oper}{e:Nat->Value}{c:Cx}{G:Gm}{F:List En}(O:Own c G F) (hm:P.follows .mixedOrders=true)
  (h:∀c',c.le c'->Own c' G F->AC D K P l n Q l.length (List.replicate l.length false) e c'):W P n (.region id l.toArray true) Q e c.w:=
 wpIn_region_any hm (by
  have:=tM.sound _ _ _ _ (h _ (Cx.drew_le c).le (O.keep (Cx.drew_le c)));rw [show (List.replicate l.length false).toArray=Array.replicate l.toArray.size false by simp] at this;exact this)
variable {l:List Oper}{fuel:Nat}{li:List Bool}{e:Nat->Value}{c:Cx}{o:Oper}
theorem AC.take0 {Z:Cx->Prop}{B:List Nat}(hZ:(∀c,Z c)\/Z=K){i:Nat}{v:Value}(hi:l.toArray[i]? = some o) (hs:Region.noSelect l.toArray=true) (hf:Region.free .any l.toArray li.toArray i=true)
  (hr:(Region.ready .any l.toArray li.toArray).contains i=true) (hB:Wt l.toArray li.toArray i B) (hD:(∀c,Z c)\/∀j∈D,li.toArray.getD j true=true\/j∈B) (hz:Z c) (hy:Yl Z P l.toArray o v (act n e) c)
  (h:AC D K P l n Q fuel (li.set i true) (upO e o.dst v) c):AC D K P l n Q (fuel+1) li e c:=by
 refine tM.first (fun ch a w h=>h.1) (fun a w h=>h.1) hi (Region.noSelect_spec hs) hZ fuel _ _ c (Region.free_spec hi hf) hB hD hz (by simpa using hr) hy ?_;rw [qR];simpa [AC] using h
def tk (l:List Oper) (n:Nat) (li:List Bool) (i:Nat):Bool:=
 Region.noSelect l.toArray && Region.free .any l.toArray li.toArray i && (Region.ready .any l.toArray li.toArray).contains i && fF n l
theorem AC.take (i:Nat) (v:Value) (hi:l.toArray[i]? = some o) (ht:tk l n li i=true) (hw:jg l.toArray n e o=true)
  (hy:∀c',c.le c'->(execOp (ev n e) o).run P c'.w= .ok (.value v) c'.w) (h:AC D K P l n Q fuel (li.set i true) (upO e o.dst v) c):AC D K P l n Q (fuel+1) li e c:=by
 simp only [tk,ao] at ht;exact AC.take0 (Z:=fun _=>True) (B:=[]) (.inl fun _=>trivial) hi ht.1.1.1 ht.1.1.2 ht.1.2 (fun j hj=>by simp at hj) (.inl fun _=>trivial) trivial (.inl ⟨by rw [pW _ _ _ _ (lA ht.2)]; exact hw,by rw [nv]; exact fun c' hc _=>hy c' hc⟩) h
theorem AC.takeb (i:Nat){t b:Bool}(htb:t=b) (hi:l.toArray[i]? = some o) (ht:tk l n li i=true) (hw:jg l.toArray n e o=true)
  (hy:∀c',c.le c'->(execOp (ev n e) o).run P c'.w= .ok (.value (.bool t)) c'.w) (h:AC D K P l n Q fuel (li.set i true) (upO e o.dst (.bool b)) c):AC D K P l n Q (fuel+1) li e c:=by
 subst htb;exact AC.take i _ hi ht hw hy h
theorem AC.takeK (i:Nat) (v:Value) (hk:K c) (hi:l.toArray[i]? = some o) (ht:tk l n li i=true) (hB:okB l.toArray li i D=true) (hw:jg l.toArray n e o=true)
  (hy:∀c',c.le c'->K c'->(execOp (ev n e) o).run P c'.w= .ok (.value v) c'.w) (h:AC D K P l n Q fuel (li.set i true) (upO e o.dst v) c):AC D K P l n Q (fuel+1) li e c:=by
 simp only [tk,ao] at ht;obtain ⟨B,h1,h2⟩:=F4 hB;exact AC.take0 (Z:=K) (B:=B) (.inr rfl) hi ht.1.1.1 ht.1.1.2 ht.1.2 h1 (.inr h2) hk (.inl ⟨by rw [pW _ _ _ _ (lA ht.2)]; exact hw,by rw [nv]; exact hy⟩) h
theorem AC.pass (i:Nat) (hi:l.toArray[i]? = some o) (ht:tk l n li i=true) (hw:jg l.toArray n e o=false)
  (h:AC D K P l n Q fuel (li.set i true) (upO e o.dst undef) c):AC D K P l n Q (fuel+1) li e c:=by
 simp only [tk,ao] at ht;exact AC.take0 (Z:=fun _=>True) (B:=[]) (.inl fun _=>trivial) hi ht.1.1.1 ht.1.1.2 ht.1.2 (fun j hj=>by simp at hj) (.inl fun _=>trivial) trivial (.inr ⟨by rw [pW _ _ _ _ (lA ht.2)]; exact hw,rfl⟩) h
def Go1 (D:List Nat) (K:Cx->Prop) (P:Program) (l:List Oper) (n:Fr) (Q:Exit->(Nat->Value)->World->Prop) (fuel:Nat) (li:List Bool) (e:Nat->Value) (c:Cx) (i:Nat):Prop:=
 wpOpIn (fen n.ro) 0 P l.toArray (Bo n Q) i (fun a' w=>∃c',w=c'.w/\c.le c'/\(i∈D\/(K c->K c'))/\tM n.ro D K P l.toArray (Bo n Q) fuel (li.toArray.setIfInBounds i true) a' c') (act n e) c.w
def I3 (p:Nat->Prop):List Nat->Prop
 | []=>True
 | i::l=>p i/\I3 p l
theorem I3.mem {p:Nat->Prop}:∀{l:List Nat},I3 p l->∀i∈l,p i
 | [],_,i,hi=>by cases hi
 | a::l,h,i,hi=>by
  rcases List.mem_cons.1 hi with rfl|hi
  ·exact h.1
  ·exact h.2.mem i hi
theorem AC.many (is:List Nat) (hne:is≠ []) (hr:Region.ready .any l.toArray li.toArray=is) (h:I3 (Go1 D K P l n Q fuel li e c) is):AC D K P l n Q (fuel+1) li e c:=
 ⟨fun h0=>(by rw [hr] at h0; exact absurd h0 hne),fun j hj=>h.mem j (hr▸ hj)⟩
theorem Go1.mk {i:Nat}(hi:l.toArray[i]? = some o) (hsl:fF n l=true) (hw:jg l.toArray n e o=true)
  (h:o.wpIn (fen n.ro) 0 P (act n e) c.w (fun a w=>∃e' c',a=act n e'/\w=c'.w/\c.le c'/\(i∈D\/(K c->K c'))/\AC D K P l n Q fuel (li.set i true) e' c') (Bo n Q)):Go1 D K P l n Q fuel li e c i:=by
 unfold Go1 wpOpIn;simp only [hi];rw [ae (by rw [pW _ _ _ _ (lA hsl)]; exact hw)];refine Oper.wpIn_mono ?_ h;rintro a w ⟨e',c',rfl,rfl,hle,hk,h'⟩;exact ⟨c',rfl,hle,hk,by simpa [AC] using h'⟩
theorem Go1.val {i:Nat}{v:Value}{c':Cx}(hi:l.toArray[i]? = some o) (hsl:fF n l=true) (hw:jg l.toArray n e o=true)
  (hrun:(execOp (ev n e) o).run P c.w= .ok (.value v) c'.w) (hle:c.le c') (hk:D.contains i=true\/K c') (h:AC D K P l n Q fuel (li.set i true) (upO e o.dst v) c'):Go1 D K P l n Q fuel li e c i:=
 Go1.mk hi hsl hw (FZ hrun ⟨_,c',rfl,rfl,hle,hk.imp (by simp) fun h _=>h,h⟩)
theorem Go1.do_ {i:Nat}{c':Cx}(hi:l.toArray[i]? = some o) (hsl:fF n l=true) (hw:jg l.toArray n e o=true)
  (hrun:(execOp (ev n e) o).run P c.w= .ok .skip c'.w) (hle:c.le c') (hk:D.contains i=true\/K c') (h:AC D K P l n Q fuel (li.set i true) (upO e o.dst undef) c'):Go1 D K P l n Q fuel li e c i:=
 Go1.mk hi hsl hw (Je hrun ⟨_,c',rfl,rfl,hle,hk.imp (by simp) fun h _=>h,h⟩)
theorem Go1.call {i:Nat}{f:FuncId}{args:Array Value}{X:Cx->Value->Prop}(hi:l.toArray[i]? = some o) (hsl:fF n l=true) (hw:jg l.toArray n e o=true)
  (hrun:(execOp (ev n e) o).run P c.w= .ok (.enter f args) c.w) (hc:Calls P f args c.w (aI c X))
  (h:∀v c',c.le c'->X c' v->(D.contains i=true\/K c')/\AC D K P l n Q fuel (li.set i true) (upO e o.dst v) c'):Go1 D K P l n Q fuel li e c i:=
 Go1.mk hi hsl hw (Dg hrun (hc.mono fun x w=>by
  rintro ⟨v,c',rfl,rfl,hx,hX⟩;have:=h v c' hx hX;exact ⟨v,rfl,_,c',rfl,rfl,hx,this.1.imp (by simp) fun h _=>h,this.2⟩))
theorem AC.done (hr:Region.ready .any l.toArray li.toArray= []) (h:Q .normal e c.w):AC D K P l n Q fuel li e c:=by
 cases fuel with
 | zero=>exact ⟨hr,trivial,e,rfl,h⟩
 | succ k=>exact ⟨fun _=>⟨trivial,e,rfl,h⟩,by rw [hr]; simp⟩
theorem AC.gh {c':Cx}(hw:c'.w=c.w) (hA:c.le c') (hk:K c->K c') (h:AC D K P l n Q fuel li e c'):AC D K P l n Q fuel li e c:=by
 have key:∀(fuel:Nat) (listed:Array Bool) (a:Act),tM n.ro D K P l.toArray (Bo n Q) fuel listed a c'->tM n.ro D K P l.toArray (Bo n Q) fuel listed a c:=fun fuel listed a h=>by
  cases fuel with
  | zero=>exact ⟨h.1,by rw [<-hw]; exact h.2⟩
  | succ fuel=>
   refine ⟨fun h0=>by rw [<-hw]; exact h.1 h0,fun i hi=>?_⟩;have:=h.2 i hi;rw [hw] at this;exact wpOpIn_mono (fun a w ⟨c2,h1,h2,h3,h4⟩=>⟨c2,h1,hA.trans h2,h3.imp id fun h5 h6=>h5 (hk h6),h4⟩) this
 exact key _ _ _ h
theorem WL.callP {ops:Array Oper}{rest:List Oper}{f:FuncId}{args:Array Value}{X:Cx->Value->Prop}(hg:o.guard=none) (hr:(execOp (ev n e) o).run P c.w= .ok (.enter f args) c.w)
  (hc:Calls P f args c.w (aI c X)) (h:∀v c',c.le c'->X c' v->WL P ops n Q rest (upO e o.dst v) c'.w):WL P ops n Q (o::rest) e c.w:=
 WL.call hg hr (hc.mono fun x w ⟨v,c',h1,h2,h3,h4⟩=>⟨v,h1,by subst h2; exact h v c' h3 h4⟩)
theorem WL.gh {ops:Array Oper}{rest:List Oper}{c':Cx}(hw:c'.w=c.w) (h:WL P ops n Q rest e c'.w):WL P ops n Q rest e c.w:=hw▸ h
end
end Go.Lt
namespace Go.Lt
section
variable {P:Program}{c c':Cx}{G:Gm}{F:List En}{α:Type}{R:Rp α}
theorem rv {s:Sem Value}{w w':World}{v:Value}(h:s.run P w= .ok v w'):(do pure (Next.value (<-s)):Sem Next).run P w= .ok (.value v) w':=by
 simp [h,Result.andThen]
theorem rs {s:Sem Unit}{w w':World}(h:s.run P w= .ok () w'):(do s; pure Next.skip:Sem Next).run P w= .ok .skip w':=by
 simp [h,Result.andThen]
theorem rx {ρ:Operand->Value}{o:Oper}{s:Sem Value}{w w':World}{v:Value}(hx:execOp ρ o=(do pure (Next.value (<-s)):Sem Next)) (h:s.run P w= .ok v w'):(execOp ρ o).run P w= .ok (.value v) w':=by
 rw [hx];exact rv h
theorem DZ {v:Value}{xs:List α}{T E:TypeId}{k:IntKind}{i:Int}{x:α}(hT:P.underlying T=some (.slice E)) (hE:(P.info? E).map (·.size)=some R.size)
  (h:Sl R c v xs) (hi:idx xs i=some x) (w:World):(Instr.indexAt T v (.int k i)).run P w= .ok (.pointer (some ⟨sb v,so v+i.toNat*R.size,none⟩)) w:=by
 obtain ⟨a,cap,rfl,_,_,h4⟩:=h;unfold idx at hi;split at hi
 ·rename_i h0
  have hlt:i.toNat<xs.length:=by
   rcases aE i.toNat xs.length with h|h
   ·exact h
   ·rw [az h] at hi; cases hi
  obtain ⟨b,off,l,rfl,_,_⟩:=h4 _ _ hi;obtain ⟨ti,hti,hsz⟩:=Option.map_eq_some_iff.1 hE;have hlt':i<xs.length:=by omega
  simp [Instr.indexAt,asIntOf,bU hT,h0,hlt',sizeOf,typeInfo,hti,hsz,sb,so,fD]
 ·cases hi
theorem HJ {v:Value}{xs:List α}{T E ty:TypeId}(hT:P.underlying T=some (.slice E)) (h:Sl R c v xs) (w:World):
  (Builtin.len_ #[T] ty #[v]).run P w= .ok (.int .i64 (xs.length:Int)) w:=by
 obtain ⟨a,cap,rfl,_⟩:=h;simp [Builtin.len_,bU hT,goInt]
theorem DY {T:TypeId}{b o:Nat}{v:Value}{d:TypeDesc}(hT:P.underlying T=some d) (hd:(match d with|.struct _|.array _ _=>false|_=>true)=true)
  (h:Im c b o v):(Instr.loadAt T (.pointer (some ⟨b,o,none⟩))).run P c.w= .ok v c.w:=by
 cases d <;> simp_all [Instr.loadAt,Instr.sureAddr,loadVar,isAgg,bU hT,load,Sem.run,h.cell]
theorem uN (b:Nat){w:World}:∀(l:List Value) (o i:Nat) (acc:Array Value),(∀j u,l[j]? = some u->w.cell? ⟨b,o+i+j,none⟩=some u)->
  (loadCellsFrom ⟨b,o,none⟩ i l.length acc).run P w= .ok (acc++l.toArray) w:=by
 intro l
 induction l with
 | nil=>intro o i acc h; simp [loadCellsFrom]
 | cons v l ih=>
  intro o i acc h;have h0:=h 0 v rfl;simp only [rT] at h0;simp only [aM,loadCellsFrom,fD,load,gZ,Sem.run,h0,Result.andThen];rw [ih o (i+1) (acc.push v) (fun j u hu=>by have:=h (j+1) u hu; rwa [show o+i+(j+1)=o+(i+1)+j by omega] at this)];simp
theorem pY {w:World}{T:TypeId}{b o:Nat}{l:List Value}(hT:(P.underlying T).map (fun d=>match d with|.struct _|.array _ _=>true|_=>false)=some true) (hs:(P.info? T).map (·.size)=some l.length)
  (h:∀j u,l[j]? = some u->w.cell? ⟨b,o+j,none⟩=some u):(loadVar T ⟨b,o,none⟩).run P w= .ok (.agg l.toArray) w:=by
 obtain ⟨ti,hti,hsz⟩:=Option.map_eq_some_iff.1 hs;obtain ⟨d,hd,hag⟩:=Option.map_eq_some_iff.1 hT;have h1:=uN (P:=P) (w:=w) b l o 0 #[] (fun j u hu=>h j u hu);have h2:(isAgg T).run P w= .ok true w:=by
  cases d <;> simp_all [isAgg,bU hd]
 rw [<-hsz] at h1;simp [loadVar,h2,sizeOf,typeInfo,hti,loadCells,h1,Result.andThen]
theorem DX {T:TypeId}{b o:Nat}{l:List Value}(hT:(P.underlying T).map (fun d=>match d with|.struct _|.array _ _=>true|_=>false)=some true) (hs:(P.info? T).map (·.size)=some l.length)
  (h:∀j u,l[j]? = some u->Im c b (o+j) u):(Instr.loadAt T (.pointer (some ⟨b,o,none⟩))).run P c.w= .ok (.agg l.toArray) c.w:=by
 simp only [Instr.loadAt,Instr.sureAddr,gZ,Ce,Result.andThen];exact pY hT hs fun j u hu=>(h j u hu).cell
theorem Bw {b o k:Nat}{L l:List Value}(h:∀j u,L[j]? = some u->Im c b (o+j) u) (hl:(L.drop k).take l.length=l):∀j u,l[j]? = some u->Im c b (o+k+j) u:=fun j u hu=>by
 rw [<-hl,aT] at hu;split at hu
 ·rw [bO] at hu
  have:=h _ _ hu
  rwa [uD]
 ·cases hu
theorem En.on.cell {e:En}(h:e.on c){b:Nat}(hb:blk e.v=some b) (j:Nat):c.w.cell? ⟨b,j,none⟩=e.vs[j]? :=by
 simp [World.cell?,(h b hb).1]
theorem sn {T:TypeId}{e:En}{b j:Nat}{v:Value}{d:TypeDesc}(hT:P.underlying T=some d) (hd:(match d with|.struct _|.array _ _=>false|_=>true)=true)
  (h:e.on c) (hb:blk e.v=some b) (hj:e.vs[j]? = some v):(Instr.loadAt T (.pointer (some ⟨b,j,none⟩))).run P c.w= .ok v c.w:=by
 have hc:c.w.cell? ⟨b,j,none⟩=some v:=by rw [h.cell hb,hj]
 cases d <;> simp_all [Instr.loadAt,Instr.sureAddr,loadVar,isAgg,bU hT,load,Sem.run]
theorem J2 {T:TypeId}{e:En}{b j:Nat}{l:List Value}(hT:(P.underlying T).map (fun d=>match d with|.struct _|.array _ _=>true|_=>false)=some true) (hs:(P.info? T).map (·.size)=some l.length)
  (h:e.on c) (hb:blk e.v=some b) (hl:(e.vs.drop j).take l.length=l):(Instr.loadAt T (.pointer (some ⟨b,j,none⟩))).run P c.w= .ok (.agg l.toArray) c.w:=by
 simp only [Instr.loadAt,Instr.sureAddr,gZ,Ce,Result.andThen];refine pY hT hs fun i u hu=>?_;have:(e.vs.drop j)[i]? = some u:=by
  rw [<-hl,aT] at hu;split at hu
  ·exact hu
  ·cases hu
 rw [bO] at this;rw [h.cell hb,this]
def nu:List Value->Prop
 | []=>True
 | u::l=>u.oneCell'=true/\nu l
theorem nu.mem:∀{l:List Value},nu l->∀u∈l,u.oneCell'=true
 | [],_,u,hu=>by cases hu
 | a::l,h,u,hu=>by
  rcases List.mem_cons.1 hu with rfl|hu
  ·exact h.1
  ·exact h.2.mem u hu
theorem frozen?_row {w w':World}{b:Nat}{l m:Array Value}{T:TypeId}(h:w.heap[b]? = some (.cells l T (0,0))) (h':w'.heap[b]? = some (.cells m T (0,0))) (ho:∀k,k≠b->w'.heap[k]? = w.heap[k]?) (a:Addr):w'.frozen? a=w.frozen? a:=by
 by_cases hk:a.block=b
 ·simp [World.frozen?,hk,h,h']
 ·simp [World.frozen?,ho _ hk]
theorem Cx.row {b:Nat}{l m:List Value}{T:TypeId}(h:c.w.heap[b]? = some (.cells l.toArray T (0,0))) (lim:Nat) (hA:∀o,c.A b o↔lim<=o) (hs:∀o,o<lim->m[o]? = l[o]?) (lim':Nat) (hl:lim<=lim'):
  ∃c':Cx,c'.w=c.w.setRow b m.toArray/\c.but (fun k=>k=b) c'/\c'.w.heap[b]? = some (.cells m.toArray T (0,0))/\∀o,c'.A b o↔lim'<=o:=by
 have hbk:=C9 c.w b l.toArray m.toArray T (0,0) h;have hoth:∀k,k≠b->(c.w.setRow b m.toArray).heap[k]? = c.w.heap[k]? :=fun k hk=>JF c.w b k _ hk;have hsz:(c.w.setRow b m.toArray).heap.size=c.w.heap.size:=by simp [World.setRow]
 refine ⟨⟨c.w.setRow b m.toArray,fun k o=>(k≠b/\c.A k o)\/(k=b/\lim'<=o),c.t⟩,rfl,⟨⟨rfl,rfl,by rw [hsz]; exact av _,fun k o hk hnA=>?_,fun k hk hnA=>?_,fun a _ _=>frozen?_row h hbk hoth a,fun _ _ _ h=>h⟩,rfl,fun k hk hkb=>⟨hoth k hkb,fun o=>?_⟩⟩,hbk,fun o=>?_⟩
 ·by_cases hkb:k=b
  ·subst hkb
   have ho:o<lim:=by
    rcases aE o lim with h|h
    ·exact h
    ·exact absurd ((hA o).2 h) hnA
   refine ⟨?_,?_⟩
   ·rw [cell_setRow_same c.w k o l.toArray _ T (0,0) h,iu c.w k o l.toArray T (0,0) h,bL,bL,hs o ho]
   ·rintro (h|h)
    ·exact h.1 rfl
    ·omega
  ·refine ⟨dw (w:=c.w) (a:=⟨k,o,none⟩) (hoth k hkb),?_⟩
   rintro (h|h)
   ·exact hnA h.2
   ·exact hkb h.1
 ·by_cases hkb:k=b
  ·subst hkb
   exact absurd ((hA lim).2 (av _)) (hnA lim)
  ·exact hoth k hkb
 ·simp [hkb]
 ·simp
theorem stE {T:TypeId}{e:En}{b o:Nat}{us:List Value}{v:Value}(h:e.on c) (hb:blk e.v=some b) (hlim:e.lim=0) (hv:v.cells.toList=us) (hs:(P.info? T).map (·.size)=some us.length) (h1:nu us)
  (hl:o+us.length<=e.vs.length):∃c',(Instr.storeAt T (.pointer (some ⟨b,o,none⟩)) v).run P c.w= .ok () c'.w/\c.but (fun k=>k=b) c'/\(⟨e.v,e.T,e.vs.take o++us++e.vs.drop (o+us.length),0⟩:En).on c':=by
 obtain ⟨ti,hti,hsz⟩:=Option.map_eq_some_iff.1 hs;have hh:=h b hb;have h2:=A5 P b o e.T us 0 e.vs.toArray c.w hh.1 (by simpa using hl) h1.mem;have hz:v.cells.size=us.length:=by rw [<-hv]; simp
 simp only [rT] at h2;obtain ⟨c',e1,e2,e3,e4⟩:=Cx.row (m:=e.vs.take o++us++e.vs.drop (o+us.length)) hh.1 e.lim hh.2 (fun o ho=>by omega) 0 (by omega);refine ⟨c',?_,e2,fun b' hb'=>?_⟩
 ·rw [e1]
  simp [Instr.storeAt,Instr.sureAddr,storeVar,sizeOf,typeInfo,hti,hsz,hz,hv,h2,Result.andThen]
 ·simp only at hb'
  rw [hb] at hb';cases hb';exact ⟨e3,e4⟩
variable {ρ:Operand->Value}{o:Oper}
theorem Own.st {T:TypeId}{e:En}{b j:Nat}{us nw:List Value}{v:Value}(k:Nat) (O:Own c G F) (hx:execOp ρ o=(do Instr.storeAt T (.pointer (some ⟨b,j,none⟩)) v; pure Next.skip:Sem Next)) (hk:F[k]? = some e) (hb:blk e.v=some b) (hlim:e.lim=0)
  (hv:v.cells.toList=us) (hs:(P.info? T).map (·.size)=some us.length) (h1:nu us) (hl:Nat.ble (j+us.length) e.vs.length=true) (hn:e.vs.take j++us++e.vs.drop (j+us.length)=nw):
  ∃c',(execOp ρ o).run P c.w= .ok .skip c'.w/\c.le c'/\Own c' G (F.set k ⟨e.v,e.T,nw,0⟩):=by
 subst hn;obtain ⟨c',h1,h2,h3⟩:=stE (O.on k hk) hb hlim hv hs h1 (bF hl);exact ⟨c',by rw [hx]; exact rs h1,h2.le,O.set k hk h2 (fun b' hb'=>by rw [hb,hb']) h3 (fun b h=> .inl h)⟩
theorem Own.stG {T:TypeId}{e:En}{b j:Nat}{us nw:List Value}{v:Value}{g k:Nat}{E:List En}(r:Nat) (O:Own c G F) (hx:execOp ρ o=(do Instr.storeAt T (.pointer (some ⟨b,j,none⟩)) v; pure Next.skip:Sem Next)) (hE:G g k=E) (hr:E[r]? = some e) (hb:blk e.v=some b) (hlim:e.lim=0)
  (hv:v.cells.toList=us) (hs:(P.info? T).map (·.size)=some us.length) (h1:nu us) (hl:Nat.ble (j+us.length) e.vs.length=true) (hn:e.vs.take j++us++e.vs.drop (j+us.length)=nw):
  ∃c',(execOp ρ o).run P c.w= .ok .skip c'.w/\c.le c'/\Own c' (jS G g k (E.set r ⟨e.v,e.T,nw,0⟩)) F:=by
 subst hn;obtain ⟨c',h1,h2,h3⟩:=stE (O.gon hE r hr) hb hlim hv hs h1 (bF hl);exact ⟨c',by rw [hx]; exact rs h1,h2.le,O.setR r hE hr h2 (fun b' hb'=>by rw [hb,hb']) h3 (fun b h=> .inl h)⟩
theorem Cx.new (c:Cx) (vs:List Value) (T:TypeId) (lim:Nat):∃c':Cx,c'.w=c.w.alloc (.cells vs.toArray T)/\c.but (fun _=>False) c'/\c'.w.heap[c.w.heap.size]? = some (.cells vs.toArray T (0,0))/\c.w.heap.size<c'.w.heap.size/\∀o,c'.A c.w.heap.size o↔lim<=o:=
 ⟨⟨c.w.alloc (.cells vs.toArray T),fun k p=>(k<c.w.heap.size/\c.A k p)\/(k=c.w.heap.size/\lim<=p),c.t⟩,rfl,
  ⟨⟨rfl,rfl,by simp,fun k p hk hA=>⟨dw (w:=c.w) (a:=⟨k,p,none⟩) (cf _ _ _ hk),by rintro (h|h); exact hA h.2; omega⟩,fun k hk _=>cf _ _ _ hk,fun a _ _=>Hk _ _ _ _,fun _ _ _ h=>h⟩,rfl,
   fun k hk _=>⟨cf _ _ _ hk,fun p=>⟨by rintro (h|h); exact h.2; omega,fun h=> .inl ⟨hk,h⟩⟩⟩⟩,xY c.w _,by simp,fun o=>by simp⟩
theorem Own.al {T:TypeId}{vs:List Value}(O:Own c G F) (hr:(execOp ρ o).run P c.w= .ok (.value (.pointer (some ⟨c.w.heap.size,0,none⟩))) (c.w.alloc (.cells vs.toArray T))):
  ∃v c',(execOp ρ o).run P c.w= .ok (.value v) c'.w/\c.le c'/\∃b,v= .pointer (some ⟨b,0,none⟩)/\Own c' G (⟨.pointer (some ⟨b,0,none⟩),T,vs,0⟩::F):=by
 obtain ⟨c',h1,h2,h3,_,h4⟩:=Cx.new c vs T 0;refine ⟨_,c',by rw [h1]; exact hr,h2.le,_,rfl,O.cons h2 (fun _=>id) (fun b hb=>?_) (fun b hb=>?_)⟩
 ·simp only [blk,aK] at hb; subst hb; exact ⟨h3,h4⟩
 ·simp only [blk,aK] at hb; omega
theorem Own.bx {T:TypeId}{vs:List Value}(O:Own c G F) (hr:(execOp ρ o).run P c.w= .ok (.value (.pointer (some ⟨c.w.heap.size,0,none⟩))) (c.w.alloc (.cells vs.toArray T))):
  ∃v c',(execOp ρ o).run P c.w= .ok (.value v) c'.w/\c.le c'/\∃b,v= .pointer (some ⟨b,0,none⟩)/\Own c' G F/\∀j u,vs[j]? = some u->Im c' b (0+j) u:=by
 obtain ⟨c',h1,h2,h3,h5,h4⟩:=Cx.new c vs T vs.length;refine ⟨_,c',by rw [h1]; exact hr,h2.le,_,rfl,O.keep h2,fun j u hu=>⟨h5,fun hA=>?_,?_⟩⟩
 ·have h6:=(h4 _).1 hA
  have:=(List.getElem?_eq_some_iff.1 hu).1;omega
 ·rw [iu _ _ _ _ _ _ h3,bL,kr,hu]
def AR (R:Rp α) (c:Cx) (vs:List Value) (xs:List α):Prop:=∀i x,xs[i]? = some x->R.cells c ((vs.drop (i*R.size)).take R.size) x
def OA (R:Rp α) (c:Cx) (v:Value) (vs:List Value) (xs:List α):Prop:=
 0<R.size/\((v= .slice none 0 0/\xs= [])\/∃g cap,v= .slice (some ⟨g,0,none⟩) xs.length cap/\xs.length<=cap/\cap<=maxLen/\cap*R.size<=vs.length)/\AR R c vs xs
def es (m:Bool) (R:Rp α) (v:Value) (E:TypeId) (vs:List Value) (xs:List α):En:=⟨v,E,vs,cond m 0 (xs.length*R.size)⟩
theorem AR.lw {vs:List Value}{xs:List α}(h:AR R c vs xs) (k:c.lw c'):AR R c' vs xs:=fun i x hx=>R.mono k (h i x hx)
theorem AR.mono {vs:List Value}{xs:List α}(h:AR R c vs xs) (k:c.le c'):AR R c' vs xs:=h.lw k.lw
theorem OA.lw {v:Value}{vs:List Value}{xs:List α}(h:OA R c v vs xs) (k:c.lw c'):OA R c' v vs xs:=⟨h.1,h.2.1,h.2.2.lw k⟩
theorem OA.mono {v:Value}{vs:List Value}{xs:List α}(h:OA R c v vs xs) (k:c.le c'):OA R c' v vs xs:=h.lw k.lw
theorem OA.nil (h0:0<R.size):OA R c (.slice none 0 0) [] []:=⟨h0,.inl ⟨rfl,rfl⟩,fun i x h=>by simp at h⟩
theorem OA.one {v:Value}{vs:List Value}{xs:List α}(h:OA R c v vs xs):v.oneCell'=true:=by
 rcases h.2.1 with ⟨rfl,_⟩|⟨g,cap,rfl,_⟩ <;> rfl
theorem FF {v:Value}{vs:List Value}{xs:List α}{T E ty:TypeId}(hT:P.underlying T=some (.slice E)) (h:OA R c v vs xs) (w:World):
  (Builtin.len_ #[T] ty #[v]).run P w= .ok (.int .i64 (xs.length:Int)) w:=by
 rcases h.2.1 with ⟨rfl,rfl⟩|⟨g,cap,rfl,_⟩ <;> simp [Builtin.len_,bU hT,goInt]
theorem jE {β:Type}{a b:List β}{i s:Nat}(h:i+s<=a.length):((a++b).drop i).take s=(a.drop i).take s:=by
 rw [iA (by omega),dP (by rw [br]; omega)]
theorem kj {i k s:Nat}(h:i<k):i*s+s<=k*s:=by
 have:=qx s (show i+1<=k by omega);rw [iw,oK] at this;exact this
theorem AR.len {vs:List Value}{xs:List α}(h:AR R c vs xs) (hp:0<R.size):xs.length*R.size<=vs.length:=by
 rcases tc xs.length with h0|h0
 ·rw [h0,wy]; exact dk _
 ·have hx:xs[xs.length-1]? = some xs[xs.length-1]:=af (by omega)
  have:=R.len (h _ _ hx);rw [aA,br] at this;have e:xs.length*R.size=(xs.length-1)*R.size+R.size:=by
   conv=>lhs; rw [show xs.length=xs.length-1+1 by omega,iw,oK]
  omega
theorem OA.sl {v:Value}{E:TypeId}{vs:List Value}{xs:List α}(h:OA R c v vs xs) (hon:(es false R v E vs xs).on c):Sl R c v xs:=by
 obtain ⟨hp,h1,h2⟩:=h;rcases h1 with ⟨rfl,rfl⟩|⟨g,cap,rfl,hc,hm,hcs⟩
 ·exact Sl.nl R c
 ·obtain ⟨h3,h4⟩:=hon g rfl
  refine ⟨_,cap,rfl,hc,hm,fun i x hx=>⟨g,0,_,rfl,h2 i x hx,fun j u hu=>?_⟩⟩;have hj:j<R.size/\vs[i*R.size+j]? = some u:=by
   rw [aT] at hu;split at hu
   ·rename_i hj
    exact ⟨hj,by rwa [bO] at hu⟩
   ·cases hu
  have hi:=kj (s:=R.size) (List.getElem?_eq_some_iff.1 hx).1;refine ⟨(Array.getElem?_eq_some_iff.1 h3).1,fun hA=>?_,?_⟩
  ·have:=(h4 _).1 hA
   simp only [es,Md] at this;omega
  ·rw [iu _ _ _ _ _ _ h3,bL,kr]
   exact hj.2
theorem Own.frz {v:Value}{E:TypeId}{vs:List Value}{xs:List α}(k:Nat) (O:Own c G F) (hk:F[k]? = some (es true R v E vs xs)) (h:OA R c v vs xs):
  ∃c',c'.w=c.w/\c.le c'/\Own c' G (F.set k (es false R v E vs xs))/\Sl R c' v xs:=by
 have hon:=O.on k hk
 let c':Cx:=⟨c.w,fun b o=>c.A b o/\¬(blk v=some b/\o<xs.length*R.size),c.t⟩
 have hle:c.le c':=⟨rfl,rfl,av _,fun _ _ _ h=>⟨rfl,fun h2=>h h2.1⟩,fun _ _ _=>rfl,fun _ _ _=>rfl,fun _ _ _ h=>h⟩;have hb:c.but (fun b=>blk v=some b) c':=⟨hle,rfl,fun b hb hd=>⟨rfl,fun o=>⟨fun h=>h.1,fun h=>⟨h,fun h2=>hd h2.1⟩⟩⟩⟩;have hon':(es false R v E vs xs).on c':=fun b hb=>by
  obtain ⟨h1,h2⟩:=hon b hb;refine ⟨h1,fun o=>?_⟩;have hb':blk v=some b:=hb;simp only [c',hb',xq,es,Md];rw [h2 o];simp [es]
 exact ⟨c',rfl,hle,O.set k hk hb (fun b h=>h) hon' (fun b h=> .inl h),(h.mono hle).sl hon'⟩
theorem Own.slf {v:Value}{E:TypeId}{vs:List Value}{xs:List α}(k:Nat) (O:Own c G F) (hk:F[k]? = some (es false R v E vs xs)) (h:OA R c v vs xs):Sl R c v xs:=h.sl (O.on k hk)
theorem Sl.flat {u:Value}{ys:List α}(h:Sl R c u ys):∃nw:List Value,nw.length=ys.length*R.size/\(∀j w,nw[j]? = some w->Im c (sb u) (so u+j) w)/\(∀w∈nw,w.oneCell'=true)/\
  (∀i x,ys[i]? = some x->R.cells c ((nw.drop (i*R.size)).take R.size) x):=by
 suffices ∀k,k<=ys.length->∃nw:List Value,nw.length=k*R.size/\(∀j w,nw[j]? = some w->Im c (sb u) (so u+j) w)/\(∀w∈nw,w.oneCell'=true)/\
   (∀i x,i<k->ys[i]? = some x->R.cells c ((nw.drop (i*R.size)).take R.size) x) by
  obtain ⟨nw,h1,h2,h3,h4⟩:=this ys.length (av _);exact ⟨nw,h1,h2,h3,fun i x hx=>h4 i x (List.getElem?_eq_some_iff.1 hx).1 hx⟩
 intro k
 induction k with
 | zero=>exact fun _=>⟨[],by simp,by simp,by simp,fun i x hi=>by omega⟩
 | succ k ih=>
  intro hk;obtain ⟨nw,h1,h2,h3,h4⟩:=ih (by omega);have hx:ys[k]? = some ys[k]:=af (by omega);obtain ⟨l,hl,hc⟩:=h.at hx;have hll:=R.len hl;refine ⟨nw++l,by rw [ax,h1,hll,iw,oK],fun j w hw=>?_,fun w hw=>?_,fun i x hi hxi=>?_⟩
  ·rcases aE j nw.length with hj|hj
   ·rw [aC hj] at hw
    exact h2 j w hw
   ·rw [be hj] at hw
    have:=hc _ _ hw;rw [h1] at this
    rwa [show so u+k*R.size+(j-k*R.size)=so u+j by omega] at this
  ·rcases List.mem_append.1 hw with hw|hw
   ·exact h3 w hw
   ·exact R.one hl w hw
  ·rcases aE i k with hik|hik
   ·rw [jE (by rw [h1]; exact kj hik)]
    exact h4 i x hik hxi
   ·obtain rfl:i=k:=by omega
    rw [hx] at hxi;cases hxi;rw [<-h1,lx,aG (by omega)];exact hl
theorem qT (z:Array Value) (n:Nat):(Builtin.zeroCells z n).size=n*z.size:=by simp [Builtin.zeroCells]
theorem yz {E t ty:TypeId}{v:Value}{vs:List Value}{xs ys zs:List α}{z:Value}{by_:Nat}{m:Bool}{ua:Option Addr}{ucap:Nat}{nw:List Value}(k:Nat) (O:Own c G F) (hk:F[k]? = some (es m R v E vs xs)) (h:OA R c v vs xs)
  (n1:nw.length=ys.length*R.size) (n2:ys≠ []->∃ub uo,ua=some ⟨ub,uo,none⟩/\∀j w,nw[j]? = some w->c.w.cell? ⟨ub,uo+j,none⟩=some w) (n3:∀w∈nw,w.oneCell'=true) (n4:∀i x,ys[i]? = some x->R.cells c ((nw.drop (i*R.size)).take R.size) x) (happ:app xs ys=some zs)
  (hT:P.underlying t=some (.slice E)) (hi:(P.info? E).map (fun i=>(i.zero,i.size,i.bytes))=some (some z,R.size,by_)) (hz:z.cells.size=R.size) (hby:Nat.ble by_ 128=true):
  ∃v' c',(Builtin.append_ #[t,t] ty #[v,.slice ua ys.length ucap]).run P c.w= .ok v' c'.w/\c.le c'/\∃vs',Own c' G (F.set k (es m R v' E vs' zs))/\OA R c' v' vs' zs:=by
 have hby:=bF hby;have hfar:xs.length+ys.length<=far/\xs++ys=zs:=by
  unfold app at happ;split at happ
  ·exact ⟨by assumption,by simpa using happ⟩
  ·cases happ
 obtain ⟨hfar,rfl⟩:=hfar;unfold far at hfar;obtain ⟨ti,hti,hzz⟩:=Option.map_eq_some_iff.1 hi;simp only [ib] at hzz;obtain ⟨hz1,hz2,hz3⟩:=hzz;have hon:=O.on k hk;have hklt:=(List.getElem?_eq_some_iff.1 hk).1;have hh:=h;obtain ⟨hp,h1,h2⟩:=h;by_cases hys:ys= []
 ·subst hys
  refine ⟨v,c,?_,Cx.le.refl c,vs,?_,by rw [dY]; exact hh⟩
  ·rcases h1 with ⟨rfl,rfl⟩|⟨g,cap,rfl,hcap,_⟩
   ·cases ua <;> simp [Builtin.append_,bU hT,sizeOf,typeInfo,hti,Builtin.lenOf,Builtin.firstCells,loadCells,loadCellsFrom,storeCells]
   ·cases ua <;> simp [Builtin.append_,bU hT,sizeOf,typeInfo,hti,Builtin.lenOf,Builtin.firstCells,loadCells,loadCellsFrom,storeCells,hcap]
  ·rw [dY]
   have:F.set k (es m R v E vs xs)=F:=by
    apply bi;intro j;by_cases hj:k=j
    ·subst hj; rw [bp hklt,hk]
    ·rw [aW hj]
   rw [this]; exact O
 ·have hpos:0<ys.length:=by
   rcases tc ys.length with h|h
   ·exact absurd (dm h) hys
   ·exact h
  obtain ⟨ub,uo,hua,n5⟩:=n2 hys;subst hua;have hcells:∀j w,nw[j]? = some w->c.w.cell? ((⟨ub,uo,none⟩:Addr).add j)=some w:=fun j w hw=>by
   rw [fD];exact n5 j w hw
  have hN:(xs++ys).length=xs.length+ys.length:=ax;have hxl:=h2.len hp;have helem:∀(c':Cx) (tail:List Value),c.le c'->AR R c' (vs.take (xs.length*R.size)++nw++tail) (xs++ys):=fun c' tail hcc i x hx=>by
   have hlt:(vs.take (xs.length*R.size)).length=xs.length*R.size:=by rw [aA]; omega
   rcases aE i xs.length with hi'|hi'
   ·have hm:=kj (s:=R.size) hi'
    rw [aO,jE (by rw [hlt]; exact hm)];rw [aC hi'] at hx;have:=h2 i x hx;rw [iz,nx,show min R.size (xs.length*R.size-i*R.size)=R.size by omega];exact R.mono hcc this
   ·rw [be hi'] at hx
    have h4:=n4 _ _ hx;have hiy:=kj (s:=R.size) (List.getElem?_eq_some_iff.1 hx).1;have e:i*R.size=xs.length*R.size+(i-xs.length)*R.size:=by rw [<-iw]; congr 1; omega
    have e2:(vs.take (xs.length*R.size)++(nw++tail)).drop (xs.length*R.size)=nw++tail:=by
     conv=>lhs; arg 1; rw [<-hlt]
     exact lx
    rw [aO,e,<-dH,e2,jE (by rw [n1]; omega)];exact R.mono hcc h4
  have hbytes:(xs.length+ys.length)*ti.bytes<=140737488355328:=by
   rw [hz3];exact cO (Nat.mul_le_mul hfar hby) (by decide)
  have fresh:∀old,old<xs.length+ys.length->
    ∃v' c',Result.ok (α:=Value) (.slice (some ⟨c.w.heap.size,0,none⟩) (xs.length+ys.length) (grownCap c.w (xs.length+ys.length) old E)) (c.w.drew.alloc (.cells ((vs.take (xs.length*R.size)).toArray++nw.toArray++Builtin.zeroCells z.cells (grownCap c.w (xs.length+ys.length) old E-(xs.length+ys.length))) E))= .ok v' c'.w/\c.le c'/\
    ∃vs',Own c' G (F.set k (es m R v' E vs' (xs++ys)))/\OA R c' v' vs' (xs++ys):=by
   intro old ho;have hge:=Lh c.w (xs.length+ys.length) old E;have hcm:grownCap c.w (xs.length+ys.length) old E<=maxLen:=Ak c.w _ old E (by unfold maxLen; omega);have hd:=Cx.drew_le c;obtain ⟨c',e1,e2,e3,e4,e5⟩:=Cx.new ⟨c.w.drew,c.A,c.t⟩ ((vs.take (xs.length*R.size))++nw++(Builtin.zeroCells z.cells (grownCap c.w (xs.length+ys.length) old E-(xs.length+ys.length))).toList) E (cond m 0 ((xs++ys).length*R.size));have ea:((vs.take (xs.length*R.size))++nw++(Builtin.zeroCells z.cells (grownCap c.w (xs.length+ys.length) old E-(xs.length+ys.length))).toList).toArray=(vs.take (xs.length*R.size)).toArray++nw.toArray++Builtin.zeroCells z.cells (grownCap c.w (xs.length+ys.length) old E-(xs.length+ys.length)):=by
    apply Mp; simp
   refine ⟨.slice (some ⟨c.w.heap.size,0,none⟩) (xs.length+ys.length) (grownCap c.w (xs.length+ys.length) old E),c',by rw [e1,ea],hd.le.trans e2.le,(vs.take (xs.length*R.size))++nw++(Builtin.zeroCells z.cells (grownCap c.w (xs.length+ys.length) old E-(xs.length+ys.length))).toList,Own.set (O.keep hd) k hk e2 (fun b (h:False)=>h.elim) (fun b hb=>?_) (fun b hb=>?_),hp,.inr ⟨c.w.heap.size,_,by rw [hN],by rw [hN]; exact hge,hcm,?_⟩,?_⟩
   ·simp only [es,blk,aK] at hb; subst hb; exact ⟨e3,e5⟩
   ·simp only [es,blk,aK] at hb; subst hb; exact .inr (av _)
   ·simp only [ax,LW,qT,hz,n1,aA]
    have:grownCap c.w (xs.length+ys.length) old E*R.size=xs.length*R.size+ys.length*R.size+(grownCap c.w (xs.length+ys.length) old E-(xs.length+ys.length))*R.size:=by
     rw [<-iw,<-iw]; congr 1; omega
    rw [this,cV hxl];exact av _
   ·exact helem c' _ (hd.le.trans e2.le)
  rcases h1 with ⟨rfl,rfl⟩|⟨g,cap,rfl,hnc,hcm,hcs⟩
  ·have hr:=run_append_nil (P:=P) c.w t ty E ti z hT hti hz1 ⟨ub,uo,none⟩ ys.length ucap nw (by rw [n1,hz2]) hcells hpos (by simp at hfar; omega) (by have:=hbytes; simp at this; omega)
   have:=fresh 0 (by simpa using hpos);simp only [bf,kr,wy,iy,Array.empty_append,bW] at this hr|-;rw [hr];simpa using this
  ·obtain ⟨hg,hA⟩:=hon g rfl
   by_cases hroom:xs.length+ys.length<=cap
   ·have hfit:xs.length*R.size+nw.length<=vs.length:=by
     rw [n1,<-iw];exact cO (qx _ hroom) hcs
    have hr:=MH (P:=P) c.w t ty E ti hT hti g xs.length cap vs.toArray hg ⟨ub,uo,none⟩ ys.length ucap nw (by rw [n1,hz2]) hcells n3 hroom (by rw [hz2]; simpa using hfit);rw [hz2] at hr;simp only at hr;obtain ⟨c',e1,e2,e3,e4⟩:=Cx.row (m:=vs.take (xs.length*R.size)++nw++vs.drop (xs.length*R.size+nw.length)) hg _ hA (fun o ho=>by
     have ho:o<xs.length*R.size:=by
      cases m
      ·exact ho
      ·exact absurd ho (Fa _)
     rw [aO,aC (by rw [aA]; omega),aT,ae ho];rfl) (cond m 0 ((xs++ys).length*R.size)) (by
      cases m
      ·simp only [es,Md]; exact qx _ (by rw [hN]; omega)
      ·exact av _)
    refine ⟨.slice (some ⟨g,0,none⟩) (xs.length+ys.length) cap,c',by rw [hr,e1],e2.le,vs.take (xs.length*R.size)++nw++vs.drop (xs.length*R.size+nw.length),Own.set O k hk e2 (fun b h=>by subst h; rfl) (fun b hb=>?_) (fun b hb=> .inl hb),hp,.inr ⟨g,cap,by rw [hN],by rw [hN]; exact hroom,hcm,?_⟩,helem c' _ e2.le⟩
    ·simp only [es,blk,aK] at hb; subst hb; exact ⟨e3,e4⟩
    ·simp only [ax,br,aA]
     omega
   ·have holds:∀j w,(vs.take (xs.length*R.size))[j]? = some w->c.w.cell? ((⟨g,0,none⟩:Addr).add j)=some w:=fun j w hw=>by
     rw [fD,kr,iu _ _ _ _ _ _ hg,bL];rw [aT] at hw;split at hw
     ·exact hw
     ·cases hw
    have hr:=run_append_grow (P:=P) c.w t ty E ti z hT hti hz1 ⟨g,0,none⟩ xs.length cap (vs.take (xs.length*R.size)) (by rw [aA,hz2]; omega) holds ⟨ub,uo,none⟩ ys.length ucap nw (by rw [n1,hz2]) hcells (by omega) (by omega) (growslice_fits (by omega) hbytes);rw [hr];exact fresh cap (by omega)
theorem E8 {E t ty:TypeId}{v u:Value}{vs:List Value}{xs ys zs:List α}{z:Value}{by_:Nat}{m:Bool}(k:Nat) (O:Own c G F) (hk:F[k]? = some (es m R v E vs xs)) (h:OA R c v vs xs) (hS:Sl R c u ys) (happ:app xs ys=some zs)
  (hT:P.underlying t=some (.slice E)) (hi:(P.info? E).map (fun i=>(i.zero,i.size,i.bytes))=some (some z,R.size,by_)) (hz:z.cells.size=R.size) (hby:Nat.ble by_ 128=true):
  ∃v' c',(Builtin.append_ #[t,t] ty #[v,u]).run P c.w= .ok v' c'.w/\c.le c'/\∃vs',Own c' G (F.set k (es m R v' E vs' zs))/\OA R c' v' vs' zs:=by
 obtain ⟨nw,n1,n2,n3,n4⟩:=hS.flat;obtain ⟨ua,ucap,rfl,hu1,hu2,hu3⟩:=hS;refine yz k O hk h n1 (fun hys=>?_) n3 n4 happ hT hi hz hby;have hpos:0<ys.length:=by
  rcases tc ys.length with h|h
  ·exact absurd (dm h) hys
  ·exact h
 obtain ⟨ub,uo,_,hua,_⟩:=hu3 0 ys[0] (af hpos);subst hua;exact ⟨ub,uo,rfl,fun j w hw=>(n2 j w hw).cell⟩
end
end Go.Lt
namespace Go.Lt
section
variable {P:Program}{c c':Cx}{G:Gm}{F:List En}{α:Type}{R:Rp α}{ρ:Operand->Value}{o:Oper}
variable {n:Fr}{ops:Array Oper}{Q:Exit->(Nat->Value)->World->Prop}{rest:List Oper}{e:Nat->Value}{D:List Nat}{K:Cx->Prop}{l:List Oper}{fuel:Nat}{li:List Bool}
theorem WL.mem {X:Value->Cx->Prop}(hg:o.guard=none) (hr:∃v c',(execOp (ev n e) o).run P c.w= .ok (.value v) c'.w/\c.le c'/\X v c')
  (h:∀v c',c.le c'->X v c'->WL P ops n Q rest (upO e o.dst v) c'.w):WL P ops n Q (o::rest) e c.w:=by
 obtain ⟨v,c',h1,h2,h3⟩:=hr;exact WL.val hg h1 (h v c' h2 h3)
theorem WL.memD {X:Cx->Prop}(hg:o.guard=none) (hr:∃c',(execOp (ev n e) o).run P c.w= .ok .skip c'.w/\c.le c'/\X c')
  (h:∀c',c.le c'->X c'->WL P ops n Q rest (upO e o.dst undef) c'.w):WL P ops n Q (o::rest) e c.w:=by
 obtain ⟨c',h1,h2,h3⟩:=hr;exact WL.do_ hg h1 (h c' h2 h3)
theorem Go1.mem (i:Nat){X:Value->Cx->Prop}(hi:l.toArray[i]? = some o) (hsl:fF n l=true) (hw:jg l.toArray n e o=true) (hr:∃v c',(execOp (ev n e) o).run P c.w= .ok (.value v) c'.w/\c.le c'/\X v c')
  (h:∀v c',c.le c'->X v c'->(D.contains i=true\/K c')/\AC D K P l n Q fuel (li.set i true) (upO e o.dst v) c'):Go1 D K P l n Q fuel li e c i:=by
 obtain ⟨v,c',h1,h2,h3⟩:=hr;have:=h v c' h2 h3;exact Go1.val hi hsl hw h1 h2 this.1 this.2
theorem Go1.memD (i:Nat){X:Cx->Prop}(hi:l.toArray[i]? = some o) (hsl:fF n l=true) (hw:jg l.toArray n e o=true) (hr:∃c',(execOp (ev n e) o).run P c.w= .ok .skip c'.w/\c.le c'/\X c')
  (h:∀c',c.le c'->X c'->(D.contains i=true\/K c')/\AC D K P l n Q fuel (li.set i true) (upO e o.dst undef) c'):Go1 D K P l n Q fuel li e c i:=by
 obtain ⟨c',h1,h2,h3⟩:=hr;have:=h c' h2 h3;exact Go1.do_ hi hsl hw h1 h2 this.1 this.2
theorem Go1.callP (i:Nat){f:FuncId}{args:Array Value}{X:Cx->Value->Prop}(hi:l.toArray[i]? = some o) (hsl:fF n l=true) (hw:jg l.toArray n e o=true)
 (hrun:(execOp (ev n e) o).run P c.w= .ok (.enter f args) c.w) (hc:Calls P f args c.w (aI c X))
 (h:∀v c',c.le c'->X c' v->(D.contains i=true\/K c')/\AC D K P l n Q fuel (li.set i true) (upO e o.dst v) c'):Go1 D K P l n Q fuel li e c i:=Go1.call hi hsl hw hrun hc h
theorem AC.one (i:Nat) (hr:Region.ready .any l.toArray li.toArray= [i]) (h:Go1 D K P l n Q fuel li e c i):AC D K P l n Q (fuel+1) li e c:=AC.many [i] (by simp) hr ⟨h,trivial⟩
theorem Sl.form {v:Value}{xs:List α}(h:Sl R c v xs):∃a n k,v= .slice a n k:=by
 obtain ⟨a,cap,h,_⟩:=h; exact ⟨_,_,_,h⟩
theorem OA.form {v:Value}{vs:List Value}{xs:List α}(h:OA R c v vs xs):∃a n k,v= .slice a n k:=by
 rcases h.2.1 with ⟨h,_⟩|⟨g,cap,h,_⟩ <;> exact ⟨_,_,_,h⟩
theorem Pt.form {g:Nat}{v:Value}{p:Option Nat}(h:Pt g c v p):∃a,v= .pointer a:=by
 cases p with
 | none=>exact ⟨_,h⟩
 | some p=>obtain ⟨b,h,_⟩:=h; exact ⟨_,h⟩
theorem va (v:Value){w:World}(h:WL P ops n Q rest (upO e o.dst v) w) (hg:o.guard=none:=by exact rfl) (hr:(execOp (ev n e) o).run P w= .ok (.value v) w:=by kernel_rfl):WL P ops n Q (o::rest) e w:=WL.val0 hg hr h
theorem vb {t b:Bool}{w:World}(ht:t=b) (h:WL P ops n Q rest (upO e o.dst (.bool b)) w) (hg:o.guard=none:=by exact rfl) (hr:(execOp (ev n e) o).run P w= .ok (.value (.bool t)) w:=by kernel_rfl):WL P ops n Q (o::rest) e w:=WL.valb0 ht hg hr h
theorem ps {l:List Oper}{w:World}(h:WL P l.toArray n Q rest (upO e o.dst undef) w) (hs:fF n l=true:=by kernel_rfl) (hw:jg l.toArray n e o=false:=by kernel_rfl):WL P l.toArray n Q (o::rest) e w:=WL.pass hs hw h
theorem wn {l:List Oper}{w:World}(h:WL P l.toArray n Q ({ o with guard:=none}::rest) e w) (hs:fF n l=true:=by kernel_rfl) (hw:jg l.toArray n e o=true:=by kernel_rfl):WL P l.toArray n Q (o::rest) e w:=WL.want hs hw h
theorem ta (i:Nat) (v:Value) (h:AC D K P l n Q fuel (li.set i true) (upO e o.dst v) c) (hi:l.toArray[i]? = some o:=by exact rfl) (ht:tk l n li i=true:=by kernel_rfl) (hw:jg l.toArray n e o=true:=by kernel_rfl)
 (hy:∀w,(execOp (ev n e) o).run P w= .ok (.value v) w:=by intro w; kernel_rfl):AC D K P l n Q (fuel+1) li e c:=AC.take i v hi ht hw (fun c' _=>hy c'.w) h
theorem sr {b:Code}{id:Nat}{l:List Oper}{w:World}(h:WL P l.toArray n (rV (W P n b Q) Q) l e w):W P n ((Code.region id l.toArray false).seq b) Q e w:=W.seq (W.region h)
theorem wln {K:(Nat->Value)->World->Prop}{Q:Exit->(Nat->Value)->World->Prop}{w:World}(h:K e w):WL P ops n (rV K Q) [] e w:=WL.nil (nrm h)
theorem vv {o':Oper}(v:Value){w:World}(h:WL P ops n Q rest (upO (upO e o.dst v) o'.dst v) w) (hg:o.guard=none:=by exact rfl) (hr:(execOp (ev n e) o).run P w= .ok (.value v) w:=by kernel_rfl) (hg':o'.guard=none:=by exact rfl) (hr':(execOp (ev n (upO e o.dst v)) o').run P w= .ok (.value v) w:=by kernel_rfl):WL P ops n Q (o::o'::rest) e w:=va v (va v h hg' hr') hg hr
theorem wa {l:List Oper}(v:Value){w:World}(h:WL P l.toArray n Q rest (upO e o.dst v) w) (hs:fF n l=true:=by kernel_rfl) (hw:jg l.toArray n e o=true:=by kernel_rfl) (hr:(execOp (ev n e) { o with guard:=none}).run P w= .ok (.value v) w:=by kernel_rfl):WL P l.toArray n Q (o::rest) e w:=wn (va v h rfl hr) hs hw
theorem pz {l:List Oper}{o':Oper}{w:World}(h:WL P l.toArray n Q rest (upO (upO e o.dst undef) o'.dst undef) w) (hs:fF n l=true:=by kernel_rfl) (hw:jg l.toArray n e o=false:=by kernel_rfl) (hw':jg l.toArray n (upO e o.dst undef) o'=false:=by kernel_rfl):WL P l.toArray n Q (o::o'::rest) e w:=ps (ps h hs hw') hs hw
theorem OA.blk {v:Value}{vs:List Value}{xs:List α}{i:Int}{x:α}(h:OA R c v vs xs) (hi:idx xs i=some x):Go.Lt.blk v=some (sb v):=by
 rcases h.2.1 with ⟨_,rfl⟩|⟨g,cap,rfl,_⟩
 ·have:=vY hi; simp at this; omega
 ·rfl
theorem Co {v:Value}{vs:List Value}{xs:List α}{T E:TypeId}{k:IntKind}{i:Int}{x:α}(hT:P.underlying T=some (.slice E)) (hE:(P.info? E).map (·.size)=some R.size)
  (h:OA R c v vs xs) (hi:idx xs i=some x) (w:World):(Instr.indexAt T v (.int k i)).run P w= .ok (.pointer (some ⟨sb v,i.toNat*R.size,none⟩)) w:=by
 obtain ⟨h1,h2⟩:=vY hi;rcases h.2.1 with ⟨_,rfl⟩|⟨g,cap,rfl,_⟩
 ·simp at h2; omega
 ·obtain ⟨ti,hti,hsz⟩:=Option.map_eq_some_iff.1 hE;simp [Instr.indexAt,asIntOf,bU hT,h1,h2,sizeOf,typeInfo,hti,hsz,sb,fD]
theorem OA.at {v:Value}{vs:List Value}{xs:List α}{i:Int}{x:α}(h:OA R c v vs xs) (hi:idx xs i=some x):∃l,R.cells c l x/\(vs.drop (i.toNat*R.size)).take R.size=l:=⟨_,h.2.2 _ _ (aP hi),rfl⟩
theorem at1 {vs l:List Value}{p n j:Nat}{u:Value}(h:(vs.drop p).take n=l) (hj:l[j]? = some u):vs[p+j]? = some u:=by
 subst h;rw [aT] at hj;split at hj
 ·rwa [bO] at hj
 ·cases hj
theorem at2 {vs l l':List Value}{p n j:Nat}(h:(vs.drop p).take n=l) (hj:(l.drop j).take l'.length=l'):(vs.drop (p+j)).take l'.length=l':=by
 subst h
 conv=>rhs; rw [<-hj]
 rw [iz,dH,nx];have h1:=nb List.length hj;rw [iz,dH,nx,aA] at h1
 congr 1
 omega
theorem Own.stO {T E:TypeId}{v:Value}{vs:List Value}{xs xs':List α}{i:Int}{x x':α}{j:Nat}{us l l':List Value}{u:Value}(k:Nat) (O:Own c G F) (hx:execOp ρ o=(do Instr.storeAt T (.pointer (some ⟨sb v,i.toNat*R.size+j,none⟩)) u; pure Next.skip:Sem Next))
  (hk:F[k]? = some (es true R v E vs xs)) (h:OA R c v vs xs) (hset:pJ xs i x'=some xs') (hm:(vs.drop (i.toNat*R.size)).take R.size=l) (hv:u.cells.toList=us) (hs:(P.info? T).map (·.size)=some us.length) (h1:nu us)
  (hl:Nat.ble (j+us.length) R.size=true) (hn:l.take j++us++l.drop (j+us.length)=l') (hx':R.cells c l' x'):
  ∃c',(execOp ρ o).run P c.w= .ok .skip c'.w/\c.le c'/\∃vs',Own c' G (F.set k (es true R v E vs' xs'))/\OA R c' v vs' xs':=by
 have hl:=bF hl;unfold pJ at hset;split at hset
 ·rename_i hi
  cases hset;have hbk:Go.Lt.blk v=some (sb v):=by
   rcases h.2.1 with ⟨_,rfl⟩|⟨g,cap,rfl,_⟩
   ·exfalso; simp at hi; omega
   ·rfl
  have hp:=h.1;have hxl:=h.2.2.len hp;have hms:=kj (s:=R.size) (show i.toNat<xs.length by omega);obtain ⟨c',r1,r2,r3⟩:=stE (P:=P) (T:=T) (o:=i.toNat*R.size+j) (O.on k hk) hbk rfl hv hs h1 (by simp only [es]; omega);have hlen:(vs.take (i.toNat*R.size+j)++us++vs.drop (i.toNat*R.size+j+us.length)).length=vs.length:=by
   simp only [ax,aA,br]; omega
  refine ⟨c',by rw [hx]; exact rs r1,r2.le,_,O.set k hk r2 (fun b hb=>by rw [hb]; exact hbk) (e':=es true R v E (vs.take (i.toNat*R.size+j)++us++vs.drop (i.toNat*R.size+j+us.length)) (xs.set i.toNat x')) r3 (fun b h=> .inl h),hp,?_,fun q y hy=>?_⟩
  ·rcases h.2.1 with ⟨_,rfl⟩|⟨g,cap,h2,h3,h4,h5⟩
   ·exfalso; simp at hi; omega
   ·exact .inr ⟨g,cap,by rw [cq]; exact h2,by rw [cq]; exact h3,h4,by rw [hlen]; exact h5⟩
  ·by_cases hq:q=i.toNat
   ·subst hq;rw [bp (by omega)] at hy;cases hy;have:((vs.take (i.toNat*R.size+j)++us++vs.drop (i.toNat*R.size+j+us.length)).drop (i.toNat*R.size)).take R.size=l':=by
     rw [<-hn,<-hm];rw [aO,iA (by rw [aA]; omega),iz];have e1:i.toNat*R.size+j-i.toNat*R.size=j:=by omega
     rw [e1,nx,cV (by omega),aO,iz,dH,C1,C1];have h6:((vs.drop (i.toNat*R.size)).take j).length=j:=by rw [aA,br]; omega
     rw [h6,aG (by omega),aG (l:=us) (by omega)]
     congr 2
     rw [uD]
     congr 1
     omega
    rw [this];exact R.mono r2.le hx'
   ·rw [aW (wx hq)] at hy;have hold:=h.2.2 q y hy;have hqm:=kj (s:=R.size) (List.getElem?_eq_some_iff.1 hy).1;have:((vs.take (i.toNat*R.size+j)++us++vs.drop (i.toNat*R.size+j+us.length)).drop (q*R.size)).take R.size=(vs.drop (q*R.size)).take R.size:=by
     rcases aE q i.toNat with hlt|hge
     ·have:=kj (s:=R.size) hlt;rw [aO,jE (by rw [aA]; omega),iz,nx,cV (by omega)]
     ·have:=kj (s:=R.size) (show i.toNat<q by omega);have h7:(vs.take (i.toNat*R.size+j)++us).length=i.toNat*R.size+j+us.length:=by rw [ax,aA]; omega
      rw [show q*R.size=(vs.take (i.toNat*R.size+j)++us).length+(q*R.size-(i.toNat*R.size+j+us.length)) by omega,<-dH,lx,dH]
      congr 2
      omega
    rw [this];exact R.mono r2.le hold
 ·cases hset
theorem Own.stW {T E:TypeId}{v:Value}{vs:List Value}{xs xs':List α}{i:Int}{x':α}{us:List Value}{u:Value}(k:Nat) (O:Own c G F) (hx:execOp ρ o=(do Instr.storeAt T (.pointer (some ⟨sb v,i.toNat*R.size,none⟩)) u; pure Next.skip:Sem Next))
  (hk:F[k]? = some (es true R v E vs xs)) (h:OA R c v vs xs) (hset:pJ xs i x'=some xs') (hv:u.cells.toList=us) (hs:(P.info? T).map (·.size)=some us.length) (h1:nu us) (hl:us.length=R.size) (hx':R.cells c us x'):
  ∃c',(execOp ρ o).run P c.w= .ok .skip c'.w/\c.le c'/\∃vs',Own c' G (F.set k (es true R v E vs' xs'))/\OA R c' v vs' xs':=by
 have hi:0<=i/\i<xs.length:=by
  unfold pJ at hset;split at hset
  ·assumption
  ·cases hset
 have hc:=h.2.2 i.toNat xs[i.toNat] (af (by omega));have hlen:=R.len hc;refine Own.stO (x:=xs[i.toNat]) (j:=0) (us:=us) (l':=us) k O (by rw [hx]; rfl) hk h hset rfl hv hs h1 ?_ ?_ hx'
 ·rw [kr,hl]; exact pE (av _)
 ·rw [iy,bW,kr,KF (by rw [hlen,hl]; exact av _),dY]
theorem Own.app {E t ty:TypeId}{v u:Value}{vs:List Value}{xs ys zs:List α}{z:Value}{by_:Nat}{m:Bool}(k:Nat) (O:Own c G F) (hk:F[k]? = some (es m R v E vs xs)) (h:OA R c v vs xs) (hS:Sl R c u ys) (happ:app xs ys=some zs)
  (hT:P.underlying t=some (.slice E)) (hi:(P.info? E).map (fun i=>(i.zero,i.size,i.bytes))=some (some z,R.size,by_)) (hz:z.cells.size=R.size) (hby:Nat.ble by_ 128=true)
  (hx:execOp ρ o=(do pure (Next.value (<-Builtin.append_ #[t,t] ty #[v,u])):Sem Next)):
  ∃v' c',(execOp ρ o).run P c.w= .ok (.value v') c'.w/\c.le c'/\∃vs',Own c' G (F.set k (es m R v' E vs' zs))/\OA R c' v' vs' zs:=by
 obtain ⟨v',c',h1,h2,h3⟩:=E8 (P:=P) (t:=t) (ty:=ty) k O hk h hS happ hT hi hz hby;exact ⟨v',c',rx hx h1,h2,h3⟩
theorem Cs {i:Int}{x:α}{xs:List α}(h:rep i x=some xs):i<=far:=by
 unfold rep at h;split at h
 ·rename_i h'; exact h'.2
 ·cases h
theorem JK {i:Int}{x:α}{xs:List α}(h:rep i x=some xs):0<=i:=by
 unfold rep at h;split at h
 ·rename_i h'; exact h'.1
 ·cases h
def pV (R:Rp α) (c:Cx):List (List Value)->List α->Prop
 | [],[]=>True
 | l::ls,x::xs=>R.cells c l x/\pV R c ls xs
 | _,_=>False
theorem pV.len:∀{ls:List (List Value)}{xs:List α},pV R c ls xs->ls.flatten.length=xs.length*R.size
 | [],[],_=>by simp
 | l::ls,x::xs,h=>by
  simp only [pg,ax,aM,R.len h.1,pV.len h.2,iw,oK];omega
 | [],_::_,h=>h.elim
 | _::_,[],h=>h.elim
theorem pV.get:∀{ls:List (List Value)}{xs:List α},pV R c ls xs->AR R c ls.flatten xs
 | [],[],_=>fun i x h=>by simp at h
 | l::ls,x::xs,h=>fun i y hy=>by
  cases i with
  | zero=>
   simp only [lv,aK] at hy;subst hy;rw [wy,ph,pg,<-R.len h.1,Hm];exact h.1
  | succ i=>
   simp only [fL] at hy;rw [pg,iw,oK,Nat.add_comm (i*R.size),<-R.len h.1,<-dH,lx,R.len h.1];exact pV.get h.2 i y hy
 | [],_::_,h=>h.elim
 | _::_,[],h=>h.elim
theorem Own.newS (m:Bool){E:TypeId}{vs:List Value}{xs:List α}{cap:Nat}(O:Own c G F) (hp:0<R.size) (hA:AR R c vs xs) (hc:xs.length<=cap) (hm:cap<=maxLen) (hcs:cap*R.size<=vs.length)
  (hr:(execOp ρ o).run P c.w= .ok (.value (.slice (some ⟨c.w.heap.size,0,none⟩) xs.length cap)) (c.w.alloc (.cells vs.toArray E))):
  ∃v c',(execOp ρ o).run P c.w= .ok (.value v) c'.w/\c.le c'/\∃vs,Own c' G (es m R v E vs xs::F)/\OA R c' v vs xs:=by
 obtain ⟨c',h1,h2,h3,_,h4⟩:=Cx.new c vs E (cond m 0 (xs.length*R.size));refine ⟨_,c',by rw [h1]; exact hr,h2.le,vs,O.cons h2 (fun _=>id) (fun b hb=>?_) (fun b hb=>?_),hp,.inr ⟨_,_,rfl,hc,hm,hcs⟩,hA.mono h2.le⟩
 ·simp only [es,Go.Lt.blk,aK] at hb; subst hb; exact ⟨h3,h4⟩
 ·simp only [es,Go.Lt.blk,aK] at hb; omega
theorem Own.sl (m:Bool){E:TypeId}{ls:List (List Value)}{vs:List Value}{xs:List α}(O:Own c G F) (hp:0<R.size) (hv:ls.flatten=vs) (hR:pV R c ls xs) (hm:Nat.ble xs.length 4294967296=true)
  (hr:(execOp ρ o).run P c.w= .ok (.value (.slice (some ⟨c.w.heap.size,0,none⟩) xs.length xs.length)) (c.w.alloc (.cells vs.toArray E))):
  ∃v c',(execOp ρ o).run P c.w= .ok (.value v) c'.w/\c.le c'/\∃vs,Own c' G (es m R v E vs xs::F)/\OA R c' v vs xs:=by
 subst hv;have hm:=bF hm;exact Own.newS m O hp hR.get (av _) (by unfold maxLen; omega) (by rw [hR.len]; exact av _) hr
theorem Own.mkS (m:Bool){E t:TypeId}{z:Value}{lz:List Value}{x:α}{xs:List α}{by_:Nat}{kl kc:IntKind}{i j:Int}(O:Own c G F) (hp:0<R.size) (hrep:rep i x=some xs) (hij:i<=j) (hj:j<=far) (hT:P.underlying t=some (.slice E))
  (hi:(P.info? E).map (fun i=>(i.zero,i.size,i.bytes))=some (some z,R.size,by_)) (hz:z.cells.toList=lz) (hzl:lz.length=R.size) (hzx:∀c,R.cells c lz x) (hby:Nat.ble by_ 128=true)
  (hx:execOp ρ o=(do pure (Next.value (<-Instr.makeSlice t (.int kl i) (.int kc j))):Sem Next)):
  ∃v c',(execOp ρ o).run P c.w= .ok (.value v) c'.w/\c.le c'/\∃vs,Own c' G (es m R v E vs xs::F)/\OA R c' v vs xs:=by
 have hby:=bF hby;unfold rep at hrep;split at hrep
 ·rename_i h0
  cases hrep;obtain ⟨ti,hti,hzz⟩:=Option.map_eq_some_iff.1 hi;simp only [ib] at hzz;obtain ⟨hz1,hz2,hz3⟩:=hzz;unfold far at hj;have hb:(ti.bytes:Int)*j<=281474976710656:=by
   rw [hz3];have:(by_:Int)*j<=128*1099511627776:=Int.mul_le_mul (by omega) (by omega) (by omega) (by omega);omega
  have hr:=run_make (P:=P) c.w t E ti z hT hti hz1 kl kc i j h0.1 hij hb (by omega);have hlen:(List.replicate i.toNat x).length=i.toNat:=by simp
  have key:(madeCells z.cells (j.toNat*ti.size)).toList=(madeCells z.cells (j.toNat*ti.size)).toList:=rfl;have hget:∀q,q<j.toNat*R.size->(madeCells z.cells (j.toNat*ti.size)).toList[q]? = lz[q % R.size]? :=fun q hq=>by
   have hzs:z.cells.size=R.size:=by rw [<-hzl,<-hz]; simp
   have hq2:q % R.size<lz.length:=by rw [hzl]; exact Hl _ hp
   have hq3:q % z.cells.size<z.cells.size:=by rw [hzs]; exact Hl _ hp
   simp only [madeCells,MG,Array.toList_range,bB,hz2,dE hq,fC];rw [<-hz,<-hzs,KM,Array.getElem?_eq_getElem hq3];simp [getElem!_pos,hq3]
  refine Own.newS (vs:=(madeCells z.cells (j.toNat*ti.size)).toList) (cap:=j.toNat) m O hp (fun q y hy=>?_) (by rw [hlen]; omega) (by unfold maxLen; omega) (by simp [size_madeCells,hz2]) ?_
  ·have hy2:=List.getElem?_eq_some_iff.1 hy;obtain ⟨hq,hyx⟩:=hy2;simp at hyx;subst hyx;have hqi:q<i.toNat:=by simpa using hq
   have hm:=kj (s:=R.size) (show q<j.toNat by omega);have:((madeCells z.cells (j.toNat*ti.size)).toList.drop (q*R.size)).take R.size=lz:=by
    apply bi;intro r;rw [aT];split
    ·rename_i hr
     rw [bO,hget _ (by omega),Nat.mul_comm q,Nat.mul_add_mod,CZ hr]
    ·rename_i hr
     rw [az (by omega)]
   rw [this];exact hzx c
  ·rw [hlen];exact rx hx (by rw [hr])
 ·cases hrep
theorem Sl.cut {xs:List α}{l h m:Nat}{a:Option Addr}{cap:Nat}(hS:Sl R c (.slice a xs.length cap) xs) (h1:l<=h) (h2:h<=xs.length) (h3:h<=m) (h4:m<=cap):
  Sl R c (.slice (if m=l then a else a.map (·.add (l*R.size))) (h-l) (m-l)) ((xs.drop l).take (h-l)):=by
 obtain ⟨a',cap',hv,h5,h6,h7⟩:=hS;cases hv;have hlen:((xs.drop l).take (h-l)).length=h-l:=by rw [aA,br]; omega
 refine ⟨_,m-l,by rw [hlen],by rw [hlen]; omega,by omega,fun i x hx=>?_⟩;rw [aT] at hx;split at hx
 ·rename_i hi
  rw [bO] at hx;obtain ⟨b,off,q,rfl,hq,hc⟩:=h7 _ _ hx;have hne:m≠l:=by omega
  refine ⟨b,off+l*R.size,q,?_,hq,fun j u hu=>?_⟩
  ·rw [ab hne]; simp [fD]
  ·have:=hc j u hu
   rwa [show off+(l+i)*R.size+j=off+l*R.size+i*R.size+j by rw [iw]; omega] at this
 ·cases hx
theorem pI {xs zs:List α}{i j:Int}(h:slc xs i j=some zs):0<=i/\i<=j/\j<=xs.length/\zs=(xs.drop i.toNat).take (j-i).toNat:=by
 unfold slc at h;split at h
 ·rename_i hh
  exact ⟨hh.1,hh.2.1,hh.2.2,by simpa using h.symm⟩
 ·cases h
theorem Hz {xs zs:List α}{i j:Int}(h:slc xs i j=some zs):(zs.length:Int)=j-i:=by
 obtain ⟨h1,h2,h3,rfl⟩:=pI h;rw [aA,br];omega
theorem HK {v:Value}{xs zs:List α}{T E:TypeId}{i j:Int}{k k':IntKind}(hT:P.underlying T=some (.slice E)) (hE:(P.info? E).map (·.size)=some R.size) (h:Sl R c v xs) (hz:slc xs i j=some zs):
  ∃v',(∀w,(Instr.sliceAt T v (some (.int k i)) (some (.int k' j)) none).run P w= .ok v' w)/\Sl R c v' zs:=by
 obtain ⟨h1,h2,h3,rfl⟩:=pI hz;obtain ⟨ti,hti,hsz⟩:=Option.map_eq_some_iff.1 hE;have hh:=h;obtain ⟨a,cap,rfl,h4,h5,h6⟩:=h;have hcut:=Sl.cut (l:=i.toNat) (h:=j.toNat) (m:=cap) hh (by omega) (by omega) (by omega) (av _);rw [show (j-i).toNat=j.toNat-i.toNat by omega];refine ⟨_,fun w=>?_,hcut⟩;have e1:0<=i/\i<=j:=⟨h1,h2⟩;have e2:0<=j/\j<=(cap:Int):=⟨by omega,by omega⟩;have e3:((j.toNat:Nat):Int)=j:=by omega
 simp [Instr.sliceAt,bU hT,Instr.slice,Instr.sliceBounds,Instr.sliceBound,asIntOf,e1,e2,e3,sizeOf,typeInfo,hti,hsz]
theorem A7 {v:Value}{xs zs:List α}{T E:TypeId}{j:Int}{k':IntKind}(hT:P.underlying T=some (.slice E)) (hE:(P.info? E).map (·.size)=some R.size) (h:Sl R c v xs) (hz:slc xs 0 j=some zs):
  ∃v',(∀w,(Instr.sliceAt T v none (some (.int k' j)) none).run P w= .ok v' w)/\Sl R c v' zs:=by
 obtain ⟨h1,h2,h3,rfl⟩:=pI hz;obtain ⟨ti,hti,hsz⟩:=Option.map_eq_some_iff.1 hE;have hh:=h;obtain ⟨a,cap,rfl,h4,h5,h6⟩:=h;have hcut:=Sl.cut (l:=0) (h:=j.toNat) (m:=cap) hh (by omega) (by omega) (by omega) (av _);rw [show (j-0).toNat=j.toNat-0 by omega];refine ⟨_,fun w=>?_,hcut⟩;have e2:0<=j/\j<=(cap:Int):=⟨by omega,by omega⟩;simp [Instr.sliceAt,bU hT,Instr.slice,Instr.sliceBounds,Instr.sliceBound,asIntOf,e2,sizeOf,typeInfo,hti]
theorem FG {v:Value}{xs zs:List α}{T E:TypeId}{i:Int}{k:IntKind}(hT:P.underlying T=some (.slice E)) (hE:(P.info? E).map (·.size)=some R.size) (h:Sl R c v xs) (hz:slc xs i xs.length=some zs):
  ∃v',(∀w,(Instr.sliceAt T v (some (.int k i)) none none).run P w= .ok v' w)/\Sl R c v' zs:=by
 obtain ⟨h1,h2,h3,rfl⟩:=pI hz;obtain ⟨ti,hti,hsz⟩:=Option.map_eq_some_iff.1 hE;have hh:=h;obtain ⟨a,cap,rfl,h4,h5,h6⟩:=h;have hcut:=Sl.cut (l:=i.toNat) (h:=xs.length) (m:=cap) hh (by omega) (by omega) (by omega) (av _);rw [show ((xs.length:Int)-i).toNat=xs.length-i.toNat by omega];refine ⟨_,fun w=>?_,hcut⟩;have e1:0<=i/\i<=(xs.length:Int):=⟨h1,h2⟩;simp [Instr.sliceAt,bU hT,Instr.slice,Instr.sliceBounds,Instr.sliceBound,asIntOf,e1,sizeOf,typeInfo,hti,hsz]
theorem Own.cutH {v:Value}{vs:List Value}{xs zs:List α}{T E:TypeId}{j:Int}{k':IntKind}(k:Nat) (O:Own c G F) (hk:F[k]? = some (es true R v E vs xs)) (hT:P.underlying T=some (.slice E)) (h:OA R c v vs xs) (hE:(P.info? E).map (·.size)=some R.size) (hz:slc xs 0 j=some zs):
  ∃v',(∀w,(Instr.sliceAt T v none (some (.int k' j)) none).run P w= .ok v' w)/\Own c G (F.set k (es true R v' E vs zs))/\OA R c v' vs zs:=by
 obtain ⟨h1,h2,h3,rfl⟩:=pI hz;obtain ⟨ti,hti,hsz⟩:=Option.map_eq_some_iff.1 hE;have hlen:((xs.drop (0:Int).toNat).take (j-0).toNat).length=j.toNat:=by simp; omega
 have hAR:AR R c vs ((xs.drop (0:Int).toNat).take (j-0).toNat):=fun i x hx=>by
  rw [aT] at hx;split at hx
  ·simp at hx; exact h.2.2 i x hx
  ·cases hx
 rcases h.2.1 with ⟨rfl,rfl⟩|⟨g,cap,rfl,h4,h5,h6⟩
 ·obtain rfl:j=0:=by simp at h3; omega
  refine ⟨.slice none 0 0,fun w=>?_,?_,?_⟩
  ·simp [Instr.sliceAt,bU hT,Instr.slice,Instr.sliceBounds,Instr.sliceBound,asIntOf,sizeOf,typeInfo,hti]
  ·have:F.set k (es true R (.slice none 0 0) E vs (([]:List α).drop (0:Int).toNat |>.take (0-0:Int).toNat))=F:=by
    apply bi;intro q;by_cases hq:k=q
    ·subst hq; rw [bp (List.getElem?_eq_some_iff.1 hk).1,hk]; rfl
    ·rw [aW hq]
   rw [this]; exact O
  ·exact ⟨h.1,.inl ⟨rfl,by simp⟩,hAR⟩
 ·refine ⟨.slice (some ⟨g,0,none⟩) j.toNat cap,fun w=>?_,?_,h.1,.inr ⟨g,cap,by rw [hlen],by rw [hlen]; omega,h5,h6⟩,hAR⟩
  ·have e2:0<=j/\j<=(cap:Int):=⟨by omega,by omega⟩;simp [Instr.sliceAt,bU hT,Instr.slice,Instr.sliceBounds,Instr.sliceBound,asIntOf,e2,sizeOf,typeInfo,hti,Addr.add]
  ·refine O.set k hk (D:=fun _=>False) ⟨Cx.le.refl c,rfl,fun _ _ _=>⟨rfl,fun _=>wB⟩⟩ (fun b (h:False)=>h.elim) (fun b hb=>?_) (fun b hb=> .inl hb);exact O.on k hk b hb
theorem Own.cutHM {v:Value}{vs:List Value}{xs zs:List α}{T E:TypeId}{j:Int}{k' k2:IntKind}(k:Nat) (O:Own c G F) (hk:F[k]? = some (es true R v E vs xs)) (hT:P.underlying T=some (.slice E)) (h:OA R c v vs xs) (hE:(P.info? E).map (·.size)=some R.size) (hz:slc xs 0 j=some zs):
  ∃v',(∀w,(Instr.sliceAt T v none (some (.int k' j)) (some (.int k2 j))).run P w= .ok v' w)/\Own c G (F.set k (es true R v' E vs zs))/\OA R c v' vs zs:=by
 obtain ⟨h1,h2,h3,rfl⟩:=pI hz;obtain ⟨ti,hti,hsz⟩:=Option.map_eq_some_iff.1 hE;have hlen:((xs.drop (0:Int).toNat).take (j-0).toNat).length=j.toNat:=by simp; omega
 have hAR:AR R c vs ((xs.drop (0:Int).toNat).take (j-0).toNat):=fun i x hx=>by
  rw [aT] at hx;split at hx
  ·simp at hx; exact h.2.2 i x hx
  ·cases hx
 rcases h.2.1 with ⟨rfl,rfl⟩|⟨g,cap,rfl,h4,h5,h6⟩
 ·obtain rfl:j=0:=by simp at h3; omega
  refine ⟨.slice none 0 0,fun w=>?_,?_,?_⟩
  ·simp [Instr.sliceAt,bU hT,Instr.slice,Instr.sliceBounds,Instr.sliceBound,asIntOf,sizeOf,typeInfo,hti]
  ·have:F.set k (es true R (.slice none 0 0) E vs (([]:List α).drop (0:Int).toNat |>.take (0-0:Int).toNat))=F:=by
    apply bi;intro q;by_cases hq:k=q
    ·subst hq; rw [bp (List.getElem?_eq_some_iff.1 hk).1,hk]; rfl
    ·rw [aW hq]
   rw [this]; exact O
  ·exact ⟨h.1,.inl ⟨rfl,by simp⟩,hAR⟩
 ·refine ⟨.slice (some ⟨g,0,none⟩) j.toNat j.toNat,fun w=>?_,?_,h.1,.inr ⟨g,j.toNat,by rw [hlen],by rw [hlen]; omega,by omega,?_⟩,hAR⟩
  ·have e2:0<=j/\j<=(cap:Int):=⟨by omega,by omega⟩;simp [Instr.sliceAt,bU hT,Instr.slice,Instr.sliceBounds,Instr.sliceBound,asIntOf,e2,sizeOf,typeInfo,hti,Addr.add];omega
  ·refine O.set k hk (D:=fun _=>False) ⟨Cx.le.refl c,rfl,fun _ _ _=>⟨rfl,fun _=>wB⟩⟩ (fun b (h:False)=>h.elim) (fun b hb=>?_) (fun b hb=> .inl hb);exact O.on k hk b hb
  ·have:=qx R.size (show j.toNat<=cap by omega);omega
theorem Pt.cs {g:Nat}{v:Value}{p:Option Nat}(h:Pt g c v p):(v= .pointer none/\p.isNone=true)\/∃b,v= .pointer (some ⟨b,0,none⟩)/\p.isNone=false:=by
 cases p with
 | none=>exact .inl ⟨h,rfl⟩
 | some p=>obtain ⟨b,h,_⟩:=h; exact .inr ⟨b,h,rfl⟩
theorem RE.cs {S T:TypeId}{v:Value}{e:Er}(h:RE S T c v e):(v= .nilIface/\e.isNil=true)\/(∃a,v= .iface S (.pointer (some a))/\e.isNil=false)\/∃b,v= .iface T (.pointer (some ⟨b,0,none⟩))/\e.isNil=false:=by
 cases e with
 | nil=>exact .inl ⟨h,rfl⟩
 | sent g=>obtain ⟨b,h,_⟩:=h; exact .inr (.inl ⟨b,h,rfl⟩)
 | fault i e=>obtain ⟨b,u,h,_⟩:=h; exact .inr (.inr ⟨b,h,rfl⟩)
theorem RE.cs3 {S T:TypeId}{v:Value}{e:Er}(h:RE S T c v e):v= .nilIface\/∃t a,v= .iface t (.pointer a):=by
 rcases h.cs with ⟨h,_⟩|⟨b,h,_⟩|⟨b,h,_⟩
 ·exact .inl h
 ·exact .inr ⟨_,_,h⟩
 ·exact .inr ⟨_,_,h⟩
def eu (G G':Gm):Prop:=∀g k,G g k≠ []->G' g k=G g k
theorem eu.refl (G:Gm):eu G G:=fun _ _ _=>rfl
theorem eu.trans {a b c:Gm}(h:eu a b) (k:eu b c):eu a c:=fun g i hi=>(k g i (by rw [h g i hi]; exact hi)).trans (h g i hi)
theorem eu.get {G G':Gm}{g k:Nat}{e:En}{l:List En}(h:eu G G') (hE:G g k=e::l):G' g k=e::l:=(h g k (by rw [hE]; exact ME _ _)).trans hE
theorem eu.nil {G G':Gm}{g k:Nat}(h:eu G G') (hE:G' g k= []):G g k= []:=by
 by_cases hn:G g k= []
 ·exact hn
 ·rw [h g k hn] at hE; exact hE
theorem Kp.adds {G G':Gm}(O:Own c G' F) (h:eu G G'):Kp G [] c:=fun i e hi=>by
 cases i with
 | inl i=>simp [at_] at hi
 | inr i=>
  obtain ⟨g,k,r⟩:=i;simp only [at_] at hi;have hne:G g k≠ []:=fun e=>by rw [e] at hi; simp at hi
  rw [<-h g k hne] at hi;exact O.gon rfl r hi
theorem Own.stGB {T:TypeId}{e:En}{b j:Nat}{us nw:List Value}{v:Value}{g k:Nat}{E:List En}(r:Nat) (O:Own c (jS G g k E) F) (hx:execOp ρ o=(do Instr.storeAt T (.pointer (some ⟨b,j,none⟩)) v; pure Next.skip:Sem Next)) (hr:E[r]? = some e) (hb:Go.Lt.blk e.v=some b) (hlim:e.lim=0)
  (hv:v.cells.toList=us) (hs:(P.info? T).map (·.size)=some us.length) (h1:nu us) (hl:Nat.ble (j+us.length) e.vs.length=true) (hn:e.vs.take j++us++e.vs.drop (j+us.length)=nw):
  ∃c',(execOp ρ o).run P c.w= .ok .skip c'.w/\c.le c'/\Own c' (jS G g k (E.set r ⟨e.v,e.T,nw,0⟩)) F:=by
 obtain ⟨c',h1,h2,h3⟩:=Own.stG (P:=P) r O hx (cQ _ _ _ _) hr hb hlim hv hs h1 hl hn;rw [zh] at h3;exact ⟨c',h1,h2,h3⟩
def FB (n:Nat) (ks:List Nat):Bool:=ks.all (fun i=>Nat.blt i n) && decide ks.Nodup
theorem Own.selD (n:Nat) (ks:List Nat) (O:Own c G F) (hks:FB n ks=true) (hn:Nat.ble n F.length=true):Own c G (ks.map (fun i=>F.getD i wT)++F.drop n):=by
 simp only [FB,ao,vJ,am] at hks;have hn:=bF hn;refine Own.sel (L:=F.take n) ks (by rw [KJ]; exact O) hks.2 ?_;rw [KC];refine dt fun i hi=>?_;have h1:i<n:=by have:=hks.1 i hi; simpa [Nat.blt_eq] using this
 simp only [Function.comp,aT,ae h1,aq];rw [af (by omega)];rfl
end
section
variable {P:Program}{c:Cx}{n:Fr}{e:Nat->Value}{fn:Func}{R:Ending->World->Prop}
theorem uj {t b:Nat}{T U:TypeId}{vs:List Value}(hr:fn.results= #[.cell t T]) (hv:ev n e (.tmp t)= .pointer (some ⟨b,0,none⟩))
  (hT:(P.underlying T).map (fun d=>match d with|.struct _|.array _ _=>true|_=>false)=some true) (hs:(P.info? T).map (·.size)=some vs.length) (h:c.w.heap[b]? = some (.cells vs.toArray U (0,0)))
  (hR:R (.returned (.agg vs.toArray)) c.w):pb P fn n R .ret e c.w:=by
 have hl:=pY (P:=P) (w:=c.w) (b:=b) (o:=0) (l:=vs) hT hs (fun j u hu=>by simp [World.cell?,h,hu]);refine ⟨.agg vs.toArray,?_,hR⟩;have ht:=gV n e t;rw [hv,cz] at ht;simp [results,hr,ht,asAddr,hl]
theorem xA {t u b:Nat}{T U:TypeId}{vs:List Value}{v:Value}(hr:fn.results= #[.cell t T,.tmp u]) (hv:ev n e (.tmp t)= .pointer (some ⟨b,0,none⟩)) (hu:ev n e (.tmp u)=v)
  (hT:(P.underlying T).map (fun d=>match d with|.struct _|.array _ _=>true|_=>false)=some true) (hs:(P.info? T).map (·.size)=some vs.length) (h:c.w.heap[b]? = some (.cells vs.toArray U (0,0)))
  (hR:R (.returned (.tuple #[.agg vs.toArray,v])) c.w):pb P fn n R .ret e c.w:=by
 have hl:=pY (P:=P) (w:=c.w) (b:=b) (o:=0) (l:=vs) hT hs (fun j u hu=>by simp [World.cell?,h,hu]);refine ⟨.tuple #[.agg vs.toArray,v],?_,hR⟩;have ht:=gV n e t;have hu':=gV n e u;rw [hv,cz] at ht;rw [hu,cz] at hu';simp [results,hr,ht,hu',asAddr,hl,Result.andThen]
theorem LY {w:World}{t u s:Nat}{v v' v'':Value}(hr:fn.results= #[.tmp t,.tmp u,.tmp s]) (hv:ev n e (.tmp t)=v) (hu:ev n e (.tmp u)=v') (hs:ev n e (.tmp s)=v'')
  (h:R (.returned (.tuple #[v,v',v''])) w):pb P fn n R .ret e w:=by
 refine ⟨.tuple #[v,v',v''],?_,h⟩;have h1:=gV n e t;have h2:=gV n e u;have h3:=gV n e s;rw [hv,cz] at h1;rw [hu,cz] at h2;rw [hs,cz] at h3;simp [results,hr,h1,h2,h3]
theorem Cr {s t u b:Nat}{T U:TypeId}{vs:List Value}{v v':Value}(hr:fn.results= #[.tmp s,.cell t T,.tmp u]) (hs':ev n e (.tmp s)=v') (hv:ev n e (.tmp t)= .pointer (some ⟨b,0,none⟩)) (hu:ev n e (.tmp u)=v)
  (hT:(P.underlying T).map (fun d=>match d with|.struct _|.array _ _=>true|_=>false)=some true) (hs:(P.info? T).map (·.size)=some vs.length) (h:c.w.heap[b]? = some (.cells vs.toArray U (0,0)))
  (hR:R (.returned (.tuple #[v',.agg vs.toArray,v])) c.w):pb P fn n R .ret e c.w:=by
 have hl:=pY (P:=P) (w:=c.w) (b:=b) (o:=0) (l:=vs) hT hs (fun j u hu=>by simp [World.cell?,h,hu]);refine ⟨.tuple #[v',.agg vs.toArray,v],?_,hR⟩;have ht:=gV n e t;have hu':=gV n e u;have hs'':=gV n e s;rw [hv,cz] at ht;rw [hu,cz] at hu';rw [hs',cz] at hs'';simp [results,hr,ht,hu',hs'',asAddr,hl,Result.andThen]
end
inductive EqP (P:Program) (xs ys:Array Value):List Field->Bool->Prop
 | nil:EqP P xs ys [] true
 | int {f:Field}{fs:List Field}{k:IntKind}{a b:Int}{r:Bool}(hn:decide (f.name= "_")=false) (hT:P.underlying f.type=some (.int k)) (hx:xs[f.offset]? = some (.int k a)) (hy:ys[f.offset]? = some (.int k b)) (h:EqP P xs ys fs r):EqP P xs ys (f::fs) ((a==b) && r)
 | bool {f:Field}{fs:List Field}{a b:Bool}{r:Bool}(hn:decide (f.name= "_")=false) (hT:P.underlying f.type=some .bool) (hx:xs[f.offset]? = some (.bool a)) (hy:ys[f.offset]? = some (.bool b)) (h:EqP P xs ys fs r):EqP P xs ys (f::fs) ((a==b) && r)
theorem qC {P:Program}{T:TypeId}{xs:Array Value}{o:Nat}{v:Value}(w:World) (hT:(P.underlying T).map (fun d=>match d with|.struct _|.array _ _=>true|_=>false)=some false) (h:xs[o]? = some v):(part T xs o).run P w= .ok v w:=by
 obtain ⟨d,hd,hx⟩:=Option.map_eq_some_iff.1 hT;have hi:(isAgg T).run P w= .ok false w:=by
  have:=bU (P:=P) (w:=w) hd;simp only [isAgg,gZ,this,pf]
  cases d <;> simp_all
 simp [part,hi,h,Result.andThen]
theorem EqP.run {P:Program}{xs ys:Array Value}{fs:List Field}{r:Bool}(h:EqP P xs ys fs r) (d:Nat) (w:World):(Op.eqFields (d+1) xs ys fs).run P w= .ok r w:=by
 induction h with
 | nil=>simp [Op.eqFields]
 | @int f fs k a b r hn hT hx hy _ ih=>
  have h1:=qC w (T:=f.type) (by rw [hT]; rfl) hx;have h2:=qC w (T:=f.type) (by rw [hT]; rfl) hy;have h3:=run_equalIn_int w d f.type k k a b hT;simp only [Op.eqFields,ae (L6 hn),gZ,h1,h2,h3,pf];by_cases hab:a=b <;> simp [hab,ih]
 | @bool f fs a b r hn hT hx hy _ ih=>
  have h1:=qC w (T:=f.type) (by rw [hT]; rfl) hx;have h2:=qC w (T:=f.type) (by rw [hT]; rfl) hy;have h3:=run_equalIn_bool' w d f.type a b hT;simp only [Op.eqFields,ae (L6 hn),gZ,h1,h2,h3,pf];by_cases hab:a=b <;> simp [hab,ih]
section
variable {P:Program}{ρ:Operand->Value}{o:Oper}{T U:TypeId}{xs ys:Array Value}{fs:Array Field}{r:Bool}
theorem A6 (ht:P.underlying T=some (.struct fs)) (hp:P.stoodInHeld T=false) (hm:P.eqGuardType P.depth T=false) (h:EqP P xs ys fs.toList r)
  (hx:execOp ρ o=(do pure (Next.value (<-(do eqGuard .eql T (.const .nilIface) (.const .nilIface) (.agg xs) (.agg ys); binOp .eql T (.agg xs) (.agg ys)))):Sem Next)) (w:World):(execOp ρ o).run P w= .ok (.value (.bool r)) w:=by
 have hf:P.fieldsOf T=fs:=by simp [Program.fieldsOf,ht]
 rw [hx];refine rv ?_;simp only [gZ,run_eqGuard_agg w .eql T (.const .nilIface) (.const .nilIface) xs ys hm,pf,run_eql_struct,run_equalIn_agg w 9999 T xs ys (by rw [hf]; exact ht) hp];rw [hf,h.run];rfl
end
end Go.Lt
namespace Go.Lt
abbrev T16:=Int×Int×Int×Int×Int×Int×Int×Int×Int×Int×Int×Int×Int×Int×Int×Int
def a16 (t:T16):List Int:=[t.1,t.2.1,t.2.2.1,t.2.2.2.1,t.2.2.2.2.1,t.2.2.2.2.2.1,t.2.2.2.2.2.2.1,t.2.2.2.2.2.2.2.1,t.2.2.2.2.2.2.2.2.1,t.2.2.2.2.2.2.2.2.2.1,t.2.2.2.2.2.2.2.2.2.2.1,t.2.2.2.2.2.2.2.2.2.2.2.1,t.2.2.2.2.2.2.2.2.2.2.2.2.1,t.2.2.2.2.2.2.2.2.2.2.2.2.2.1,t.2.2.2.2.2.2.2.2.2.2.2.2.2.2.1,t.2.2.2.2.2.2.2.2.2.2.2.2.2.2.2]
def l16 (l:List Int):T16:=(l.getD 0 0,l.getD 1 0,l.getD 2 0,l.getD 3 0,l.getD 4 0,l.getD 5 0,l.getD 6 0,l.getD 7 0,l.getD 8 0,l.getD 9 0,l.getD 10 0,l.getD 11 0,l.getD 12 0,l.getD 13 0,l.getD 14 0,l.getD 15 0)
theorem pC (t:T16):(a16 t).length=16:=rfl
theorem I4 {l:List Int}(h:l.length=16):a16 (l16 l)=l:=by
 match l,h with
 | [_,_,_,_,_,_,_,_,_,_,_,_,_,_,_,_],_=>rfl
def CT (t:T16) (i x:Int):T16:=l16 ((a16 t).set i.toNat x)
theorem Cc (t:T16) (i x:Int):a16 (CT t i x)=(a16 t).set i.toNat x:=I4 (by rw [cq]; rfl)
theorem HE {α:Type}(pre l post:List α){m:Nat}(x:α) (h:m<l.length):(pre++l++post).take (pre.length+m*1)++ [x]++(pre++l++post).drop (pre.length+m*1+1)=pre++l.set m x++post:=by
 rw [LI,aO pre l post,C1,List.drop_append,aG (by omega),KF (l:=pre) (by omega),bW];rw [show pre.length+m-pre.length=m by omega,show pre.length+m+1-pre.length=m+1 by omega];rw [dP (by omega),iA (by omega)];rw [List.set_eq_take_append_cons_drop,ae h];simp only [aO,dv,bW]
theorem KV {k:IntKind}{t y:T16}{i x z:Int}(h:idx (a16 t) i=some z) (hy:some (CT t i x)=some y) (pre post:List Value):
  (pre++(a16 t).map (Value.int k)++post).take (pre.length+i.toNat*1)++ [.int k x]++(pre++(a16 t).map (Value.int k)++post).drop (pre.length+i.toNat*1+1)=pre++(a16 y).map (Value.int k)++post:=by
 have hl:=vY h;rw [pC] at hl;cases hy;rw [HE _ _ _ _ (by rw [dF,pC]; omega),Cc,List.map_set]
theorem LC {i z:Int}{t:T16}(h:idx (a16 t) i=some z){p n:Nat}(hn:p+16<=n):Nat.ble (p+i.toNat*1+1) n=true:=by
 have hl:=vY h;rw [pC] at hl;exact pE (by omega)
section
variable {P:Program}{c c':Cx}{G:Gm}{F:List En}{ρ:Operand->Value}{o:Oper}
theorem Own.back {g k:Nat}{E E':List En}(O:Own c (jS G g k E') F) (hE:G g k=E) (h:E'=E):Own c G F:=by
 subst h;have e:jS G g k E'=G:=by
  funext a b
  simp only [jS];split
  ·rename_i hh
   obtain ⟨rfl,rfl⟩:=hh;exact hE.symm
  ·rfl
 rwa [e] at O
theorem Own.appSrc {α:Type}{R:Rp α}{E t ty:TypeId}{v:Value}{vs:List Value}{xs ys zs:List α}{z:Value}{by_:Nat}{m:Bool}{ua:Option Addr}{ucap:Nat}{nw:List Value}(k:Nat) (O:Own c G F) (hk:F[k]? = some (es m R v E vs xs)) (h:OA R c v vs xs)
  (n1:nw.length=ys.length*R.size) (n2:ys≠ []->∃ub uo,ua=some ⟨ub,uo,none⟩/\∀j w,nw[j]? = some w->c.w.cell? ⟨ub,uo+j,none⟩=some w) (n3:∀w∈nw,w.oneCell'=true) (n4:∀i x,ys[i]? = some x->R.cells c ((nw.drop (i*R.size)).take R.size) x) (happ:Go.Lt.app xs ys=some zs)
  (hT:P.underlying t=some (.slice E)) (hi:(P.info? E).map (fun i=>(i.zero,i.size,i.bytes))=some (some z,R.size,by_)) (hz:z.cells.size=R.size) (hby:Nat.ble by_ 128=true)
  (hx:execOp ρ o=(do pure (Next.value (<-Builtin.append_ #[t,t] ty #[v,.slice ua ys.length ucap])):Sem Next)):
  ∃v' c',(execOp ρ o).run P c.w= .ok (.value v') c'.w/\c.le c'/\∃vs',Own c' G (F.set k (es m R v' E vs' zs))/\OA R c' v' vs' zs:=by
 obtain ⟨v',c',h1,h2,h3⟩:=yz (P:=P) (t:=t) (ty:=ty) (ucap:=ucap) k O hk h n1 n2 n3 n4 happ hT hi hz hby;exact ⟨v',c',rx hx h1,h2,h3⟩
theorem Cp {T E:TypeId}{n sz b j:Nat}{k:IntKind}{i:Int}(hT:P.underlying T=some (.array n E)) (hE:(P.info? E).map (·.size)=some sz) (h0:0<=i) (h1:i<(n:Int)) (w:World):
  (Instr.indexAt T (.pointer (some ⟨b,j,none⟩)) (.int k i)).run P w= .ok (.pointer (some ⟨b,j+i.toNat*sz,none⟩)) w:=by
 obtain ⟨ti,hti,hsz⟩:=Option.map_eq_some_iff.1 hE;simp [Instr.indexAt,asIntOf,Instr.sureAddr,bU hT,h0,h1,sizeOf,typeInfo,hti,hsz,fD]
theorem FH {T E:TypeId}{n b j:Nat}{k:IntKind}{i:Int}(hT:P.underlying T=some (.array n E)) (hE:((P.info? E).map (·.size)).isSome=true) (h0:0<=i) (h1:i<=(n:Int)) (w:World):
  (Instr.sliceAt T (.pointer (some ⟨b,j,none⟩)) none (some (.int k i)) none).run P w= .ok (.slice (some ⟨b,j,none⟩) i.toNat n) w:=by
 cases hti:P.info? E with
 | none=>rw [hti] at hE; cases hE
 | some ti=>
  have e2:0<=i/\i<=(n:Int):=⟨h0,h1⟩;simp [Instr.sliceAt,Instr.sureAddr,bU hT,Instr.sliceBounds,Instr.sliceBound,asIntOf,e2,sizeOf,typeInfo,hti,fD]
theorem Jv {k:IntKind}{t:T16}{i:Int}{xs:List Int}(h:slc (a16 t) 0 i=some xs) (pre post:List Value) (m:Nat) (u:Value) (hu:(xs.map (Value.int k))[m]? = some u):(pre++(a16 t).map (Value.int k)++post)[pre.length+m]? = some u:=by
 obtain ⟨h1,h2,h3,rfl⟩:=pI h;rw [pC] at h3;rw [bB] at hu;simp only [Int.toNat_zero,ph,aT] at hu;split at hu
 ·rename_i hm
  have hm16:m<16:=by omega
  rw [aO,be (by omega),show pre.length+m-pre.length=m by omega,aC (by rw [dF,pC]; exact hm16),bB];exact hu
 ·cases hu
theorem Ft {t:T16}{i:Int}{xs:List Int}(h:slc (a16 t) 0 i=some xs):xs.length=i.toNat:=by
 have:=Hz h;omega
theorem pV.map {α:Type}{R:Rp α}{c:Cx}(f:α->List Value) (h:∀x,R.cells c (f x) x):∀l:List α,pV R c (l.map f) l
 | []=>trivial
 | x::l=>⟨h x,pV.map f h l⟩
def fP (k:IntKind) (a b:Int):Int:=k.wrap ((BitVec.ofInt k.bits a &&& BitVec.ofInt k.bits b).toNat:Int)
def gW (k:IntKind) (a b:Int):Int:=k.wrap ((BitVec.ofInt k.bits a ||| BitVec.ofInt k.bits b).toNat:Int)
def shn (n:Int):Option Nat:=if n<0 then none else some n.toNat
theorem Fv {n:Int}{m:Nat}(h:shn n=some m):¬n<0/\n.toNat=m:=by
 unfold shn at h;split at h
 ·cases h
 ·rename_i hn; exact ⟨hn,by simpa using h⟩
theorem HI {k k':IntKind}{a b:Int}{m:Nat}(h:shn b=some m) (hx:execOp ρ o=(do pure (Next.value (<-Op.shift .shl k a k' b)):Sem Next)) (w:World):(execOp ρ o).run P w= .ok (.value (.int k (k.wrap (a*2 ^ (min m k.bits))))) w:=by
 obtain ⟨h1,h2⟩:=Fv h;rw [hx];exact rv (by simp [Op.shift,h1,h2])
end
end Go.Lt
namespace Go.Lt
section
variable {P:Program}{c c':Cx}{G:Gm}{F:List En}{ρ:Operand->Value}{o:Oper}
theorem Own.frzB {b:Nat}{T:TypeId}{vs:List Value}(k:Nat) (O:Own c G F) (hk:F[k]? = some ⟨.pointer (some ⟨b,0,none⟩),T,vs,0⟩):
  ∃c',c'.w=c.w/\c.le c'/\Own c' G (F.set k ⟨.pointer (some ⟨b,0,none⟩),T,vs,vs.length⟩)/\∀j u,vs[j]? = some u->Im c' b (0+j) u:=by
 have hon:=O.on k hk;obtain ⟨hh,hA⟩:=hon b rfl
 let c':Cx:=⟨c.w,fun b' o=>c.A b' o/\¬(b'=b/\o<vs.length),c.t⟩
 have hle:c.le c':=⟨rfl,rfl,av _,fun _ _ _ h=>⟨rfl,fun h2=>h h2.1⟩,fun _ _ _=>rfl,fun _ _ _=>rfl,fun _ _ _ h=>h⟩;have hb:c.but (fun b'=>b'=b) c':=⟨hle,rfl,fun b' hb' hd=>⟨rfl,fun o=>⟨fun h=>h.1,fun h=>⟨h,fun h2=>hd h2.1⟩⟩⟩⟩;refine ⟨c',rfl,hle,O.set k hk hb (fun b' h=>by rw [h]; rfl) (fun b' hb'=>?_) (fun b' h=> .inl h),fun j u hu=>⟨hon.lt rfl,fun hA'=>?_,?_⟩⟩
 ·simp only [blk,aK] at hb';subst hb';refine ⟨hh,fun o=>?_⟩;show (c.A b o/\¬(b=b/\o<vs.length))↔vs.length<=o;rw [hA o];simp
 ·have:=(List.getElem?_eq_some_iff.1 hu).1;exact hA'.2 ⟨rfl,by omega⟩
 ·show c.w.cell? _=_;rw [iu _ _ _ _ _ _ hh,bL,kr,hu]
def HD (s:ByteArray) (i:Int):Option Int:=if 0<=i then (s[i.toNat]?).map (fun b=>(b.toNat:Int)) else none
theorem xy {T:TypeId}{s:ByteArray}{k:IntKind}{i x:Int}(hT:P.underlying T=some .string) (h:HD s i=some x) (w:World):(Instr.index T (.string s) (.int k i)).run P w= .ok (.int .u8 x) w:=by
 unfold HD at h;split at h
 ·rename_i h0
  obtain ⟨b,hb,rfl⟩:=Option.map_eq_some_iff.1 h;simp [Instr.index,asIntOf,bU hT,h0,hb]
 ·cases h
end
section
variable {P:Program}{c:Cx}{n:Fr}{e:Nat->Value}{fn:Func}{R:Ending->World->Prop}
end
section
variable {D:List Nat}{K:Cx->Prop}{P:Program}{l:List Oper}{n:Fr}{Q:Exit->(Nat->Value)->World->Prop}{fuel:Nat}{li:List Bool}{e:Nat->Value}{c:Cx}{o:Oper}
theorem Go1.late (i:Nat) (v:Value) (hi:l.toArray[i]? = some o) (hsl:fF n l=true) (hw:jg l.toArray n e o=true) (hr:(execOp (ev n e) o).run P c.w= .ok (.value v) c.w)
 (hk:D.contains i=true) (h:AC D K P l n Q fuel (li.set i true) (upO e o.dst v) c):Go1 D K P l n Q fuel li e c i:=Go1.val hi hsl hw hr (Cx.le.refl c) (.inl hk) h
end
end Go.Lt
namespace Go.Lt
theorem pt {c c':Cx}(k:c.le c':=by repeat (first|assumption|exact Cx.le.refl _|refine Cx.le.trans ?_ (by assumption))):c.le c':=k
section
variable {c c':Cx}{α:Type}{R:Rp α}
theorem Sl.m {v:Value}{xs:List α}(h:Sl R c v xs) (k:c.le c':=by repeat (first|assumption|refine Cx.le.trans ?_ (by assumption))):Sl R c' v xs:=h.mono k
theorem OA.m {v:Value}{vs:List Value}{xs:List α}(h:OA R c v vs xs) (k:c.le c':=by repeat (first|assumption|refine Cx.le.trans ?_ (by assumption))):OA R c' v vs xs:=h.mono k
theorem Pt.m {g:Nat}{v:Value}{p:Option Nat}(h:Pt g c v p) (k:c.le c':=by repeat (first|assumption|refine Cx.le.trans ?_ (by assumption))):Pt g c' v p:=h.mono k
theorem RE.m {S T:TypeId}{v:Value}{e:Er}(h:RE S T c v e) (k:c.le c':=by repeat (first|assumption|refine Cx.le.trans ?_ (by assumption))):RE S T c' v e:=h.mono k
theorem mm {b o:Nat}{L:List Value}(h:∀j u,L[j]? = some u->Im c b (o+j) u) (k:c.le c':=by repeat (first|assumption|refine Cx.le.trans ?_ (by assumption))):∀j u,L[j]? = some u->Im c' b (o+j) u:=fun j u hu=>(h j u hu).mono k
theorem tm {g k b:Nat}(h:c.t g k=some b) (l:c.le c':=by repeat (first|assumption|refine Cx.le.trans ?_ (by assumption))):c'.t g k=some b:=l.t _ _ _ h
end
theorem Bx {e:Nat->Value}:∀{l:List (Nat×Value)},l.map (fun x=>e x.1)=l.map (fun x=>x.2)->holds e l
 | [],_=>trivial
 | (t,v)::l,h=>by
  simp only [zE,Fb] at h;exact ⟨h.1,Bx h.2⟩
theorem us {e:Nat->Value}{l:List (Nat×Value)}(h:l.map (fun x=>e x.1)=l.map (fun x=>x.2):=by kernel_rfl):e=ups e l:=AV (Bx h)
abbrev Jn (c0:Cx) (q:Cx->List (Nat×Value)->Prop) (e:Nat->Value) (w:World):Prop:=∃(c:Cx) (g:Nat->Value) (l:List (Nat×Value)),w=c.w/\c0.le c/\e=ups g l/\q c l
theorem jn {c0:Cx}{q:Cx->List (Nat×Value)->Prop}{e:Nat->Value}{l:List (Nat×Value)}(c:Cx) (h:q c l) (k:c0.le c:=by repeat (first|assumption|exact Cx.le.refl _|refine Cx.le.trans ?_ (by assumption))) (u:l.map (fun x=>e x.1)=l.map (fun x=>x.2):=by kernel_rfl):Jn c0 q e c.w:=⟨c,e,l,rfl,k,us u,h⟩
theorem qq {c0:Cx}{X:Cx->Value->Prop}{v:Value}(c:Cx) (h:X c v) (k:c0.le c:=by repeat (first|assumption|exact Cx.le.refl _|refine Cx.le.trans ?_ (by assumption))):aI c0 X (.returned v) c.w:=⟨v,c,rfl,rfl,k,h⟩
theorem bn {α β:Type}{x:Option α}{f:α->Option β}{r:β}{C:Prop}(H:x.bind f=some r) (k:∀a,x=some a->f a=some r->C):C:=by
 obtain ⟨a,h1,h2⟩:=bs H;exact k a h1 h2
theorem si {α:Type}{a b:α}(h:some a=some b):a=b:=aL h
theorem bo (b:Bool):b=true\/b=false:=Bool.eq_false_or_eq_true b
theorem Own.sD {c:Cx}{G:Gm}{F:List En}(O:Own c G F) (n:Nat) (ks:List Nat) (h1:FB n ks=true:=by kernel_rfl) (h2:Nat.ble n F.length=true:=by kernel_rfl):Own c G (ks.map (fun i=>F.getD i wT)++F.drop n):=O.selD n ks h1 h2
section
variable {P:Program}{c c':Cx}{G:Gm}{F:List En}{α:Type}{R:Rp α}{ρ:Operand->Value}{o:Oper}{fn:Func}
variable {n:Fr}{ops:Array Oper}{Q:Exit->(Nat->Value)->World->Prop}{rest:List Oper}{e:Nat->Value}{D:List Nat}{K:Cx->Prop}{l:List Oper}{fuel:Nat}{li:List Bool}{a b:Code}{w:World}
def val:Result Next->Value
 | .ok (.value v) _=>v
 | _=>undef
theorem vx {s:Sem Value}{v:Value}(h0:s.run P w= .ok v w) (h:WL P ops n Q rest (upO e o.dst v) w) (hg:o.guard=none:=by exact rfl) (hx:execOp (ev n e) o=(do pure (Next.value (<-s)):Sem Next):=by kernel_rfl):WL P ops n Q (o::rest) e w:=WL.val0 hg (rx hx h0) h
theorem vr (v:Value) (hr:(execOp (ev n e) o).run P w= .ok (.value v) w) (h:WL P ops n Q rest (upO e o.dst v) w) (hg:o.guard=none:=by exact rfl):WL P ops n Q (o::rest) e w:=WL.val0 hg hr h
theorem cl {f:FuncId}{args:Array Value}{X:Cx->Value->Prop}(hc:Calls P f args c.w (aI c X)) (h:∀v c',c.le c'->X c' v->WL P ops n Q rest (upO e o.dst v) c'.w) (hg:o.guard=none:=by exact rfl) (hr:(execOp (ev n e) o).run P c.w= .ok (.enter f args) c.w:=by kernel_rfl):WL P ops n Q (o::rest) e c.w:=WL.callP hg hr hc h
theorem me {X:Value->Cx->Prop}(hr:∃v c',(execOp (ev n e) o).run P c.w= .ok (.value v) c'.w/\c.le c'/\X v c') (h:∀v c',c.le c'->X v c'->WL P ops n Q rest (upO e o.dst v) c'.w) (hg:o.guard=none:=by exact rfl):WL P ops n Q (o::rest) e c.w:=WL.mem hg hr h
theorem md {X:Cx->Prop}(hr:∃c',(execOp (ev n e) o).run P c.w= .ok .skip c'.w/\c.le c'/\X c') (h:∀c',c.le c'->X c'->WL P ops n Q rest (upO e o.dst undef) c'.w) (hg:o.guard=none:=by exact rfl):WL P ops n Q (o::rest) e c.w:=WL.memD hg hr h
theorem cn {α:Type}{t:Bool}{x y:Option α}{r:α}{cd:Operand}(H:(if t then x else y)=some r) (h1:t=true->x=some r->W P n a Q e w) (h2:t=false->y=some r->W P n b Q e w) (hc:ev n e cd= .bool t:=by kernel_rfl):W P n (.cond cd a b) Q e w:=
 W.cond hc (fun h=>h1 h (it h H)) (fun h=>h2 h (ie h H))
theorem lp {σ τ:Type}{step:σ->Option (σ ⊕ τ)}{fuel:Nat}{s:σ}{t:τ}(H:cm fuel step s=some t) (F:σ->(Nat->Value)->World->Prop) (Out:τ->Exit->(Nat->Value)->World->Prop)
 (hb:∀s x e w,step s=some x->F s e w->W P n a (lpQ F Out x) e w) (h0:F s e w) (hQ:∀x e w,Out t x e w->Q x e w):W P n (.loop a) Q e w:=W.loop F Out hb H h0 hQ
theorem en {P:Program}{f:FuncId}{fn:Func}{code:Code}{n:Nat}{l:List Value}{w:World}{R:Ending->World->Prop}(hf:P.funcs[f]? = some fn) (hb:fn.body=some code) (hn:fn.ntmps=n) (h:W P ⟨n,[],none⟩ code (pb P fn ⟨n,[],none⟩ R) (ar l) w) (hl:Nat.ble l.length n=true:=by rfl):Calls P f l.toArray w R:=enter hf hb hn hl h
theorem tx (i:Nat){s:Sem Value}{v:Value}(h0:∀c',c.le c'->s.run P c'.w= .ok v c'.w) (h:AC D K P l n Q fuel (li.set i true) (upO e o.dst v) c) (hi:l.toArray[i]? = some o:=by exact rfl) (ht:tk l n li i=true:=by kernel_rfl) (hw:jg l.toArray n e o=true:=by kernel_rfl)
 (hx:execOp (ev n e) o=(do pure (Next.value (<-s)):Sem Next):=by kernel_rfl):AC D K P l n Q (fuel+1) li e c:=AC.take i v hi ht hw (fun c' k=>rx hx (h0 c' k)) h
theorem tkx (i:Nat){s:Sem Value}{v:Value}(p:K c) (h0:∀c',c.le c'->K c'->s.run P c'.w= .ok v c'.w) (h:AC D K P l n Q fuel (li.set i true) (upO e o.dst v) c) (hi:l.toArray[i]? = some o:=by exact rfl) (ht:tk l n li i=true:=by kernel_rfl) (hB:okB l.toArray li i D=true:=by kernel_rfl)
 (hw:jg l.toArray n e o=true:=by kernel_rfl) (hx:execOp (ev n e) o=(do pure (Next.value (<-s)):Sem Next):=by kernel_rfl):AC D K P l n Q (fuel+1) li e c:=AC.takeK i v p hi ht hB hw (fun c' k q=>rx hx (h0 c' k q)) h
theorem tp (i:Nat) (h:AC D K P l n Q fuel (li.set i true) (upO e o.dst undef) c) (hi:l.toArray[i]? = some o:=by exact rfl) (ht:tk l n li i=true:=by kernel_rfl) (hw:jg l.toArray n e o=false:=by kernel_rfl):AC D K P l n Q (fuel+1) li e c:=AC.pass i hi ht hw h
theorem dn (h:Q .normal e c.w) (hr:Region.ready .any l.toArray li.toArray= []:=by kernel_rfl):AC D K P l n Q fuel li e c:=AC.done hr h
theorem o1 (i:Nat) (h:Go1 D K P l n Q fuel li e c i) (hr:Region.ready .any l.toArray li.toArray= [i]:=by kernel_rfl):AC D K P l n Q (fuel+1) li e c:=AC.one i hr h
theorem mn2 (i j:Nat) (h1:Go1 D K P l n Q fuel li e c i) (h2:Go1 D K P l n Q fuel li e c j) (hr:Region.ready .any l.toArray li.toArray= [i,j]:=by kernel_rfl):AC D K P l n Q (fuel+1) li e c:=AC.many [i,j] (by simp) hr ⟨h1,h2,trivial⟩
theorem gm (i:Nat){X:Value->Cx->Prop}(hr:∃v c',(execOp (ev n e) o).run P c.w= .ok (.value v) c'.w/\c.le c'/\X v c') (h:∀v c',c.le c'->X v c'->(D.contains i=true\/K c')/\AC D K P l n Q fuel (li.set i true) (upO e o.dst v) c')
 (hi:l.toArray[i]? = some o:=by exact rfl) (hsl:fF n l=true:=by kernel_rfl) (hw:jg l.toArray n e o=true:=by kernel_rfl):Go1 D K P l n Q fuel li e c i:=Go1.mem i hi hsl hw hr h
theorem gD (i:Nat){X:Cx->Prop}(hr:∃c',(execOp (ev n e) o).run P c.w= .ok .skip c'.w/\c.le c'/\X c') (h:∀c',c.le c'->X c'->(D.contains i=true\/K c')/\AC D K P l n Q fuel (li.set i true) (upO e o.dst undef) c')
 (hi:l.toArray[i]? = some o:=by exact rfl) (hsl:fF n l=true:=by kernel_rfl) (hw:jg l.toArray n e o=true:=by kernel_rfl):Go1 D K P l n Q fuel li e c i:=Go1.memD i hi hsl hw hr h
theorem gc (i:Nat){f:FuncId}{args:Array Value}{X:Cx->Value->Prop}(hc:Calls P f args c.w (aI c X)) (h:∀v c',c.le c'->X c' v->(D.contains i=true\/K c')/\AC D K P l n Q fuel (li.set i true) (upO e o.dst v) c')
 (hi:l.toArray[i]? = some o:=by exact rfl) (hsl:fF n l=true:=by kernel_rfl) (hw:jg l.toArray n e o=true:=by kernel_rfl) (hr:(execOp (ev n e) o).run P c.w= .ok (.enter f args) c.w:=by kernel_rfl):Go1 D K P l n Q fuel li e c i:=Go1.callP i hi hsl hw hr hc h
theorem gl (i:Nat){s:Sem Value}{v:Value}(h0:s.run P c.w= .ok v c.w) (h:AC D K P l n Q fuel (li.set i true) (upO e o.dst v) c)
 (hi:l.toArray[i]? = some o:=by exact rfl) (hsl:fF n l=true:=by kernel_rfl) (hw:jg l.toArray n e o=true:=by kernel_rfl) (hx:execOp (ev n e) o=(do pure (Next.value (<-s)):Sem Next):=by kernel_rfl) (hk:D.contains i=true:=by kernel_rfl):Go1 D K P l n Q fuel li e c i:=Go1.late i v hi hsl hw (rx hx h0) hk h
theorem rD (D:List Nat) (K:Cx->Prop){id:Nat}(O:Own c G F) (h:∀c',c.le c'->Own c' G F->AC D K P l n Q l.length (List.replicate l.length false) e c') (hm:P.follows .mixedOrders=true:=by kernel_rfl):W P n (.region id l.toArray true) Q e c.w:=W.regionD D K O hm h
theorem l1 {T:TypeId}{b o:Nat}{v:Value}{d:TypeDesc}(hT:P.underlying T=some d) (h:Im c b o v) (hd:(match d with|.struct _|.array _ _=>false|_=>true)=true:=by rfl):(Instr.loadAt T (.pointer (some ⟨b,o,none⟩))).run P c.w= .ok v c.w:=DY hT hd h
theorem lN (T:TypeId){b o:Nat}{l:List Value}(h:∀j u,l[j]? = some u->Im c b (o+j) u) (hT:(P.underlying T).map (fun d=>match d with|.struct _|.array _ _=>true|_=>false)=some true:=by kernel_rfl) (hs:(P.info? T).map (·.size)=some l.length:=by kernel_rfl):
 (Instr.loadAt T (.pointer (some ⟨b,o,none⟩))).run P c.w= .ok (.agg l.toArray) c.w:=DX hT hs h
theorem le1 (j:Nat){T:TypeId}{e:En}{b:Nat}{v:Value}{d:TypeDesc}(hT:P.underlying T=some d) (h:e.on c) (hd:(match d with|.struct _|.array _ _=>false|_=>true)=true:=by rfl) (hb:blk e.v=some b:=by rfl) (hj:e.vs[j]? = some v:=by rfl):
 (Instr.loadAt T (.pointer (some ⟨b,j,none⟩))).run P c.w= .ok v c.w:=sn hT hd h hb hj
theorem leN (T j:Nat) (l:List Value){e:En}{b:Nat}(h:e.on c) (hT:(P.underlying T).map (fun d=>match d with|.struct _|.array _ _=>true|_=>false)=some true:=by kernel_rfl) (hs:(P.info? T).map (·.size)=some l.length:=by kernel_rfl) (hb:blk e.v=some b:=by rfl) (hl:(e.vs.drop j).take l.length=l:=by rfl):
 (Instr.loadAt T (.pointer (some ⟨b,j,none⟩))).run P c.w= .ok (.agg l.toArray) c.w:=J2 hT hs h hb hl
theorem ix {v:Value}{xs:List α}{T E:TypeId}{i:Int}{x:α}(hT:P.underlying T=some (.slice E)) (h:Sl R c v xs) (hi:idx xs i=some x) (hE:(P.info? E).map (·.size)=some R.size:=by kernel_rfl):
 (Instr.indexAt T v (.int .i64 i)).run P w= .ok (.pointer (some ⟨sb v,so v+i.toNat*R.size,none⟩)) w:=DZ hT hE h hi w
theorem ixO {v:Value}{vs:List Value}{xs:List α}{T E:TypeId}{i:Int}{x:α}(hT:P.underlying T=some (.slice E)) (h:OA R c v vs xs) (hi:idx xs i=some x) (hE:(P.info? E).map (·.size)=some R.size:=by kernel_rfl):
 (Instr.indexAt T v (.int .i64 i)).run P w= .ok (.pointer (some ⟨sb v,i.toNat*R.size,none⟩)) w:=Co hT hE h hi w
theorem ln {v:Value}{xs:List α}{T E:TypeId}(ty:TypeId) (hT:P.underlying T=some (.slice E)) (h:Sl R c v xs):(Builtin.len_ #[T] ty #[v]).run P w= .ok (.int .i64 (xs.length:Int)) w:=HJ hT h w
theorem lnO {v:Value}{vs:List Value}{xs:List α}{T E:TypeId}(ty:TypeId) (hT:P.underlying T=some (.slice E)) (h:OA R c v vs xs):(Builtin.len_ #[T] ty #[v]).run P w= .ok (.int .i64 (xs.length:Int)) w:=FF hT h w
theorem bx (T:TypeId) (vs:List Value) (O:Own c G F) (hr:(execOp ρ o).run P c.w= .ok (.value (.pointer (some ⟨c.w.heap.size,0,none⟩))) (c.w.alloc (.cells vs.toArray T)):=by kernel_rfl):
 ∃v c',(execOp ρ o).run P c.w= .ok (.value v) c'.w/\c.le c'/\∃b,v= .pointer (some ⟨b,0,none⟩)/\Own c' G F/\∀j u,vs[j]? = some u->Im c' b (0+j) u:=Own.bx O hr
theorem al (T:TypeId) (vs:List Value) (O:Own c G F) (hr:(execOp ρ o).run P c.w= .ok (.value (.pointer (some ⟨c.w.heap.size,0,none⟩))) (c.w.alloc (.cells vs.toArray T)):=by kernel_rfl):
 ∃v c',(execOp ρ o).run P c.w= .ok (.value v) c'.w/\c.le c'/\∃b,v= .pointer (some ⟨b,0,none⟩)/\Own c' G (⟨.pointer (some ⟨b,0,none⟩),T,vs,0⟩::F):=Own.al O hr
theorem sA (T:TypeId) (us:List Value){e:En}{b:Nat}(k:Nat) (O:Own c G F) (h1:nu us) (hx:execOp ρ o=(do Instr.storeAt T (.pointer (some ⟨b,0,none⟩)) (.agg us.toArray); pure Next.skip:Sem Next):=by kernel_rfl) (hk:F[k]? = some e:=by rfl) (hb:blk e.v=some b:=by rfl) (hlim:e.lim=0:=by rfl)
 (hs:(P.info? T).map (·.size)=some us.length:=by kernel_rfl) (hl:Nat.ble (0+us.length) e.vs.length=true:=by rfl) (hn:e.vs.take 0++us++e.vs.drop (0+us.length)=us:=by rfl):∃c',(execOp ρ o).run P c.w= .ok .skip c'.w/\c.le c'/\Own c' G (F.set k ⟨e.v,e.T,us,0⟩):=Own.st k O hx hk hb hlim rfl hs h1 hl hn
theorem sB (T j:Nat) (us nw:List Value){e:En}{b:Nat}(k:Nat) (O:Own c G F) (h1:nu us) (hx:execOp ρ o=(do Instr.storeAt T (.pointer (some ⟨b,j,none⟩)) (.agg us.toArray); pure Next.skip:Sem Next):=by kernel_rfl) (hk:F[k]? = some e:=by rfl) (hb:blk e.v=some b:=by rfl) (hlim:e.lim=0:=by rfl)
 (hs:(P.info? T).map (·.size)=some us.length:=by kernel_rfl) (hl:Nat.ble (j+us.length) e.vs.length=true:=by rfl) (hn:e.vs.take j++us++e.vs.drop (j+us.length)=nw:=by rfl):∃c',(execOp ρ o).run P c.w= .ok .skip c'.w/\c.le c'/\Own c' G (F.set k ⟨e.v,e.T,nw,0⟩):=Own.st k O hx hk hb hlim rfl hs h1 hl hn
theorem GT {v:Value}(h:v.oneCell'=true):v.cells.toList= [v]:=by
 cases v <;> first|rfl|(simp [Value.oneCell'] at h)
theorem sC (T j:Nat) (v:Value) (nw:List Value){e:En}{b:Nat}(k:Nat) (O:Own c G F) (h1:nu [v]) (hx:execOp ρ o=(do Instr.storeAt T (.pointer (some ⟨b,j,none⟩)) v; pure Next.skip:Sem Next):=by kernel_rfl) (hk:F[k]? = some e:=by rfl) (hb:blk e.v=some b:=by rfl) (hlim:e.lim=0:=by rfl)
 (hs:(P.info? T).map (·.size)=some 1:=by kernel_rfl) (hl:Nat.ble (j+1) e.vs.length=true:=by rfl) (hn:e.vs.take j++ [v]++e.vs.drop (j+1)=nw:=by rfl):∃c',(execOp ρ o).run P c.w= .ok .skip c'.w/\c.le c'/\Own c' G (F.set k ⟨e.v,e.T,nw,0⟩):=Own.st k O hx hk hb hlim (GT h1.1) hs h1 hl hn
theorem gB (T j:Nat) (us nw:List Value){e:En}{b g k:Nat}{E:List En}(r:Nat) (O:Own c G F) (hE:G g k=E) (h1:nu us) (hx:execOp ρ o=(do Instr.storeAt T (.pointer (some ⟨b,j,none⟩)) (.agg us.toArray); pure Next.skip:Sem Next):=by kernel_rfl) (hr:E[r]? = some e:=by rfl) (hb:blk e.v=some b:=by rfl) (hlim:e.lim=0:=by rfl)
 (hs:(P.info? T).map (·.size)=some us.length:=by kernel_rfl) (hl:Nat.ble (j+us.length) e.vs.length=true:=by rfl) (hn:e.vs.take j++us++e.vs.drop (j+us.length)=nw:=by rfl):∃c',(execOp ρ o).run P c.w= .ok .skip c'.w/\c.le c'/\Own c' (jS G g k (E.set r ⟨e.v,e.T,nw,0⟩)) F:=Own.stG r O hx hE hr hb hlim rfl hs h1 hl hn
theorem gC (T j:Nat) (v:Value) (nw:List Value){e:En}{b g k:Nat}{E:List En}(r:Nat) (O:Own c G F) (hE:G g k=E) (h1:nu [v]) (hx:execOp ρ o=(do Instr.storeAt T (.pointer (some ⟨b,j,none⟩)) v; pure Next.skip:Sem Next):=by kernel_rfl) (hr:E[r]? = some e:=by rfl) (hb:blk e.v=some b:=by rfl) (hlim:e.lim=0:=by rfl)
 (hs:(P.info? T).map (·.size)=some 1:=by kernel_rfl) (hl:Nat.ble (j+1) e.vs.length=true:=by rfl) (hn:e.vs.take j++ [v]++e.vs.drop (j+1)=nw:=by rfl):∃c',(execOp ρ o).run P c.w= .ok .skip c'.w/\c.le c'/\Own c' (jS G g k (E.set r ⟨e.v,e.T,nw,0⟩)) F:=Own.stG r O hx hE hr hb hlim (GT h1.1) hs h1 hl hn
theorem sl (R:Rp α) (E:TypeId) (ls:List (List Value)) (xs:List α) (O:Own c G F) (hR:pV R c ls xs) (hp:0<R.size:=by exact ba _) (hm:Nat.ble xs.length 4294967296=true:=by kernel_rfl)
 (hr:(execOp ρ o).run P c.w= .ok (.value (.slice (some ⟨c.w.heap.size,0,none⟩) xs.length xs.length)) (c.w.alloc (.cells ls.flatten.toArray E)):=by kernel_rfl):
 ∃v c',(execOp ρ o).run P c.w= .ok (.value v) c'.w/\c.le c'/\∃vs,Own c' G (es true R v E vs xs::F)/\OA R c' v vs xs:=Own.sl true O hp rfl hR hm hr
theorem ap (R:Rp α) (z:Value) (by_ ty:Nat){E t:TypeId}{v u:Value}{vs:List Value}{xs ys zs:List α}{m:Bool}(k:Nat) (O:Own c G F) (h:OA R c v vs xs) (hS:Sl R c u ys) (happ:app xs ys=some zs) (hT:P.underlying t=some (.slice E)) (hk:F[k]? = some (es m R v E vs xs):=by rfl)
 (hi:(P.info? E).map (fun i=>(i.zero,i.size,i.bytes))=some (some z,R.size,by_):=by kernel_rfl) (hz:z.cells.size=R.size:=by rfl) (hby:Nat.ble by_ 128=true:=by kernel_rfl) (hx:execOp ρ o=(do pure (Next.value (<-Builtin.append_ #[t,t] ty #[v,u])):Sem Next):=by kernel_rfl):
 ∃v' c',(execOp ρ o).run P c.w= .ok (.value v') c'.w/\c.le c'/\∃vs',Own c' G (F.set k (es m R v' E vs' zs))/\OA R c' v' vs' zs:=Own.app k O hk h hS happ hT hi hz hby hx
variable {RR:Ending->World->Prop}
theorem r0 (h:RR (.returned (.tuple #[])) w) (hr:fn.results= #[]:=by rfl):pb P fn n RR .ret e w:=L0 hr h
theorem n0 (h:RR (.returned (.tuple #[])) w) (hr:fn.results= #[]:=by rfl):pb P fn n RR .normal e w:=Mb hr h
theorem r1 {t:Nat}{v:Value}(h:RR (.returned v) w) (hr:fn.results= #[.tmp t]:=by rfl) (hv:ev n e (.tmp t)=v:=by kernel_rfl):pb P fn n RR .ret e w:=FO hr hv h
theorem r2 {t u:Nat}{v v':Value}(h:RR (.returned (.tuple #[v,v'])) w) (hr:fn.results= #[.tmp t,.tmp u]:=by rfl) (hv:ev n e (.tmp t)=v:=by kernel_rfl) (hu:ev n e (.tmp u)=v':=by kernel_rfl):pb P fn n RR .ret e w:=LZ hr hv hu h
theorem r3 {t u s:Nat}{v v' v'':Value}(h:RR (.returned (.tuple #[v,v',v''])) w) (hr:fn.results= #[.tmp t,.tmp u,.tmp s]:=by rfl) (hv:ev n e (.tmp t)=v:=by kernel_rfl) (hu:ev n e (.tmp u)=v':=by kernel_rfl) (hs:ev n e (.tmp s)=v'':=by kernel_rfl):pb P fn n RR .ret e w:=LY hr hv hu hs h
end
abbrev I (x:Int):Value:= .int .i64 x
abbrev J (x:Int):Value:= .int .i32 x
abbrev B (x:Bool):Value:= .bool x
abbrev Q (b:Nat):Value:= .pointer (some ⟨b,0,none⟩)
abbrev Qo (b o:Nat):Value:= .pointer (some ⟨b,o,none⟩)
abbrev aF (a b c:Int):Value:= .agg #[I a,I b,I c]
abbrev III (a b:Int):Value:= .agg #[I a,I b]
abbrev MF (a b c:Int):Value:= .agg #[J a,J b,J c]
abbrev JII (a b:Int):Value:= .agg #[J a,J b]
abbrev Y:Value:= .slice none 0 0
abbrev Eb (b:Nat) (T:TypeId) (l:List Value):En:=⟨.pointer (some ⟨b,0,none⟩),T,l,0⟩
section
variable {P:Program}{c c':Cx}{o:Oper}{fn:Func}{n:Fr}{ops:Array Oper}{Q:Exit->(Nat->Value)->World->Prop}{rest:List Oper}{e:Nat->Value}{l:List Oper}{a b:Code}{w:World}
def Ra (P:Program) (n:Fr) (w:World):(Nat->Value)->List Oper->List Value->Prop
 | e,o::l,v::L=>(o.guard=none/\(execOp (ev n e) o).run P w= .ok (.value v) w)/\Ra P n w (upO e o.dst v) l L
 | _,_,[]=>True
 | _,[],_::_=>False
def Rb:(Nat->Value)->List Oper->List Value->(Nat->Value)
 | e,o::l,v::L=>Rb (upO e o.dst v) l L
 | e,_,_=>e
theorem Rc {v:Value}{L:List Value}(h:o.guard=none) (k:(execOp (ev n e) o).run P w= .ok (.value v) w) (g:Ra P n w (upO e o.dst v) l L):Ra P n w e (o::l) (v::L):=⟨⟨h,k⟩,g⟩
theorem Re:Ra P n w e l []:=by cases l <;> trivial
theorem Rg:∀{l:List Oper}{e:Nat->Value}{L:List Value},Ra P n w e l L->WL P ops n Q (l.drop L.length) (Rb e l L) w->WL P ops n Q l e w
 | [],_,[],_,h=>h
 | _::_,_,[],_,h=>h
 | _::_,_,_::_,⟨⟨g,k⟩,r⟩,h=>va _ (Rg r h) g k
theorem Rh (L:List Value) (h:WL P ops n Q (l.drop L.length) (Rb e l L) w) (g:Ra P n w e l L:=by repeat (first|exact Re|refine Rc (by exact rfl) (by kernel_rfl) ?_)):WL P ops n Q l e w:=Rg g h
theorem Ri (x:Bool) (h:WL P ops n Q rest (upO e o.dst (B x)) w) (hg:o.guard=none:=by exact rfl) (hr:(execOp (ev n e) o).run P w= .ok (.value (B x)) w:=by kernel_rfl):WL P ops n Q (o::rest) e w:=va (B x) h hg hr
theorem Rj (x:Prop) [Decidable x] (h:WL P ops n Q rest (upO e o.dst (B (decide x))) w) (hg:o.guard=none:=by exact rfl) (hr:(execOp (ev n e) o).run P w= .ok (.value (B (decide x))) w:=by kernel_rfl):WL P ops n Q (o::rest) e w:=va (B (decide x)) h hg hr
theorem Rk {o':Oper}(x:Bool) (h:WL P ops n Q rest (upO (upO e o.dst (B x)) o'.dst (B x)) w) (hg:o.guard=none:=by exact rfl) (hr:(execOp (ev n e) o).run P w= .ok (.value (B x)) w:=by kernel_rfl) (hg':o'.guard=none:=by exact rfl) (hr':(execOp (ev n (upO e o.dst (B x))) o').run P w= .ok (.value (B x)) w:=by kernel_rfl):WL P ops n Q (o::o'::rest) e w:=vv (B x) h hg hr hg' hr'
theorem Rm (x:Prop) [Decidable x] (h:WL P l.toArray n Q rest (upO e o.dst (B (decide x))) w) (hs:fF n l=true:=by kernel_rfl) (hw:jg l.toArray n e o=true:=by kernel_rfl) (hr:(execOp (ev n e) { o with guard:=none}).run P w= .ok (.value (B (decide x))) w:=by kernel_rfl):WL P l.toArray n Q (o::rest) e w:=wa (B (decide x)) h hs hw hr
theorem Rn (x:Bool) (h:WL P l.toArray n Q rest (upO e o.dst (B x)) w) (hs:fF n l=true:=by kernel_rfl) (hw:jg l.toArray n e o=true:=by kernel_rfl) (hr:(execOp (ev n e) { o with guard:=none}).run P w= .ok (.value (B x)) w:=by kernel_rfl):WL P l.toArray n Q (o::rest) e w:=wa (B x) h hs hw hr
theorem Ro (x:Int) (h:WL P ops n Q rest (upO e o.dst (I x)) w) (hg:o.guard=none:=by exact rfl) (hr:(execOp (ev n e) o).run P w= .ok (.value (I x)) w:=by kernel_rfl):WL P ops n Q (o::rest) e w:=va (I x) h hg hr
theorem Rq {o':Oper}(x:Int) (h:WL P ops n Q rest (upO (upO e o.dst (I (w64 x))) o'.dst (I (w64 x))) w) (hg:o.guard=none:=by exact rfl) (hr:(execOp (ev n e) o).run P w= .ok (.value (I (w64 x))) w:=by kernel_rfl) (hg':o'.guard=none:=by exact rfl) (hr':(execOp (ev n (upO e o.dst (I (w64 x)))) o').run P w= .ok (.value (I (w64 x))) w:=by kernel_rfl):WL P ops n Q (o::o'::rest) e w:=vv (I (w64 x)) h hg hr hg' hr'
theorem Rs (x y:Nat) (h:WL P ops n Q rest (upO e o.dst (Qo x y)) w) (hg:o.guard=none:=by exact rfl) (hr:(execOp (ev n e) o).run P w= .ok (.value (Qo x y)) w:=by kernel_rfl):WL P ops n Q (o::rest) e w:=va (Qo x y) h hg hr
theorem Rt (x:Int) (h:WL P ops n Q rest (upO e o.dst (I (w64 x))) w) (hg:o.guard=none:=by exact rfl) (hr:(execOp (ev n e) o).run P w= .ok (.value (I (w64 x))) w:=by kernel_rfl):WL P ops n Q (o::rest) e w:=va (I (w64 x)) h hg hr
theorem Ru {id:Nat}(x:Bool) (h:WL P (o::l).toArray n (rV (W P n b Q) Q) l (upO e o.dst (B x)) w) (hg:o.guard=none:=by exact rfl) (hr:(execOp (ev n e) o).run P w= .ok (.value (B x)) w:=by kernel_rfl):W P n ((Code.region id (o::l).toArray false).seq b) Q e w:=sr (va (B x) h hg hr)
theorem Rv {id:Nat}(x:Value) (h:WL P (o::l).toArray n Q l (upO e o.dst (x)) w) (hg:o.guard=none:=by exact rfl) (hr:(execOp (ev n e) o).run P w= .ok (.value (x)) w:=by kernel_rfl):W P n (.region id (o::l).toArray false) Q e w:=W.region (va (x) h hg hr)
theorem Rx {Q':Exit->(Nat->Value)->World->Prop}(h:W P n a (rV (W P n b Q) Q) e w):WL P ops n (rV (W P n (a.seq b) Q) Q') [] e w:=wln (W.seq h)
theorem Ry {c0:Cx}{q:Cx->List (Nat×Value)->Prop}{l:List (Nat×Value)}(c:Cx) (h:q c l) (k:c0.le c:=by repeat (first|assumption|exact Cx.le.refl _|refine Cx.le.trans ?_ (by assumption))) (u:l.map (fun x=>e x.1)=l.map (fun x=>x.2):=by kernel_rfl):WL P ops n (rV (Jn c0 q) Q) [] e c.w:=wln (jn c h k u)
theorem Rz {c0:Cx}{X:Cx->Value->Prop}{t:Nat}{v:Value}(c:Cx) (h:X c v) (k:c0.le c:=by repeat (first|assumption|exact Cx.le.refl _|refine Cx.le.trans ?_ (by assumption))) (hr:fn.results= #[.tmp t]:=by rfl) (hv:ev n e (.tmp t)=v:=by kernel_rfl):pb P fn n (aI c0 X) .ret e c.w:=r1 (qq c h k) hr hv
theorem RA {id:Nat}(x:Int) (h:WL P (o::l).toArray n (rV (W P n b Q) Q) l (upO e o.dst (I x)) w) (hg:o.guard=none:=by exact rfl) (hr:(execOp (ev n e) o).run P w= .ok (.value (I x)) w:=by kernel_rfl):W P n ((Code.region id (o::l).toArray false).seq b) Q e w:=sr (va (I x) h hg hr)
theorem RB {id:Nat}(x:Value) (h:WL P (o::l).toArray n (rV (W P n b Q) Q) l (upO e o.dst (x)) w) (hg:o.guard=none:=by exact rfl) (hr:(execOp (ev n e) o).run P w= .ok (.value (x)) w:=by kernel_rfl):W P n ((Code.region id (o::l).toArray false).seq b) Q e w:=sr (va (x) h hg hr)
theorem RC {id:Nat}(x:Int) (h:WL P (o::l).toArray n Q l (upO e o.dst (I x)) w) (hg:o.guard=none:=by exact rfl) (hr:(execOp (ev n e) o).run P w= .ok (.value (I x)) w:=by kernel_rfl):W P n (.region id (o::l).toArray false) Q e w:=W.region (va (I x) h hg hr)
theorem RD {Q':Exit->(Nat->Value)->World->Prop}(h:Q .ret e w):WL P ops n (rV (W P n .ret Q) Q') [] e w:=wln (W.ret h)
theorem RF {Q':Exit->(Nat->Value)->World->Prop}{α:Type}{t:Bool}{x y:Option α}{r:α}{cd:Operand}(H:(if t=true then x else y)=some r) (h1:t=true->x=some r->W P n a Q e w) (h2:t=false->y=some r->W P n b Q e w) (hc:ev n e cd= .bool t:=by kernel_rfl):WL P ops n (rV (W P n (.cond cd a b) Q) Q') [] e w:=wln (cn H h1 h2 hc)
theorem RG {K:(Nat->Value)->World->Prop}(h:K e w):W P n .skip (rV K Q) e w:=W.skip (nrm h)
theorem RH {K:(Nat->Value)->World->Prop}{i:Nat}(h:K e w):nP i (rV K Q) .normal e w:=bkn (nrm h)
theorem RJ {K:(Nat->Value)->World->Prop}{i:Nat}(h:K e w):nP i (rV K Q) (.exit i) e w:=bke (nrm h)
theorem RK {K:(Nat->Value)->World->Prop}{i:Nat}(h:Q .ret e w):nP i (rV K Q) .ret e w:=bkr (thr h)
theorem RM {id:Nat}(h:W P n a (nP id (rV (W P n b Q) Q)) e w):W P n ((Code.block id a).seq b) Q e w:=W.seq (W.block h)
theorem RN {c0:Cx}{X:Cx->Value->Prop}(c:Cx) (h:X c (.tuple #[])) (k:c0.le c:=by repeat (first|assumption|exact Cx.le.refl _|refine Cx.le.trans ?_ (by assumption))) (hr:fn.results= #[]:=by rfl):pb P fn n (aI c0 X) .normal e c.w:=n0 (qq c h k) hr
theorem RO {Q':Exit->(Nat->Value)->World->Prop}{id:Nat}(h:WL P l.toArray n (rV (W P n b Q) Q) l e w):WL P ops n (rV (W P n ((Code.region id l.toArray false).seq b) Q) Q') [] e w:=wln (sr h)
theorem RQ {Q':Exit->(Nat->Value)->World->Prop}(h:W P n a (rV (W P n b Q) Q) e w):rV (W P n (a.seq b) Q) Q' .normal e w:=nrm (W.seq h)
end
abbrev RT (t:T16) (l:List Value):List Value:=J t.1::J t.2.1::J t.2.2.1::J t.2.2.2.1::J t.2.2.2.2.1::J t.2.2.2.2.2.1::J t.2.2.2.2.2.2.1::J t.2.2.2.2.2.2.2.1::J t.2.2.2.2.2.2.2.2.1::J t.2.2.2.2.2.2.2.2.2.1::J t.2.2.2.2.2.2.2.2.2.2.1::J t.2.2.2.2.2.2.2.2.2.2.2.1::J t.2.2.2.2.2.2.2.2.2.2.2.2.1::J t.2.2.2.2.2.2.2.2.2.2.2.2.2.1::J t.2.2.2.2.2.2.2.2.2.2.2.2.2.2.1::J t.2.2.2.2.2.2.2.2.2.2.2.2.2.2.2::l
end Go.Lt
namespace Go.Lt
def eqS (a b:ByteArray):Bool:=a.data.toList==b.data.toList
theorem pq {P:Program}{ρ:Operand->Value}{o:Oper}{a b:ByteArray}{w:World}(hr:(execOp ρ o).run P w= .ok (.value (.bool (a.toList==b.toList))) w):(execOp ρ o).run P w= .ok (.value (.bool (eqS a b))) w:=by
 rw [hr,qZ,qZ];rfl
theorem zS {P:Program}{ρ:Operand->Value}{o:Oper}{a b:ByteArray}{w:World}(hr:(execOp ρ o).run P w= .ok (.value (.bool (!(a.toList==b.toList)))) w):(execOp ρ o).run P w= .ok (.value (.bool (!eqS a b))) w:=by
 rw [hr,qZ,qZ];rfl
def qA (s:ByteArray):Int:=(s.size:Int)
def JG (a b:ByteArray):Option ByteArray:=if a.size+b.size<=far then some (a++b) else none
def DK (s:ByteArray) (i j:Int):Option ByteArray:=if 0<=i/\i<=j/\j<=s.size then some (s.extract i.toNat j.toNat) else none
theorem C7 {s r:ByteArray}{i j:Int}(h:DK s i j=some r):(0<=i/\i<=j/\j<=s.size)/\s.extract i.toNat j.toNat=r:=by
 unfold DK at h;split at h
 ·exact ⟨by assumption,by simpa using h⟩
 ·cases h
theorem uO {P:Program}{T ty:TypeId}{s:ByteArray}(hT:P.underlying T=some .string) (w:World):(Builtin.len_ #[T] ty #[.string s]).run P w= .ok (.int .i64 (qA s)) w:=run_len_string w T ty s hT
theorem FI {P:Program}{a b r:ByteArray}(h:JG a b=some r) (w:World):(Op.stringOp .add a b).run P w= .ok (.string r) w:=by
 unfold JG far at h;split at h
 ·cases h;exact run_string_add_sum w a b (by omega)
 ·cases h
theorem DW {P:Program}{T:TypeId}{s r:ByteArray}{k':IntKind}{j:Int}(hT:P.underlying T=some .string) (h:DK s 0 j=some r) (w:World):(Instr.sliceAt T (.string s) none (some (.int k' j)) none).run P w= .ok (.string r) w:=by
 rw [LX _ _ _ _ _ _ hT];obtain ⟨⟨h0,h1,h2⟩,rfl⟩:=C7 h;rw [run_slice_string_to_if w T s k' j hT,ae ⟨h1,h2⟩];rfl
theorem DV {P:Program}{T:TypeId}{s r:ByteArray}{k:IntKind}{i:Int}(hT:P.underlying T=some .string) (h:DK s i (qA s)=some r) (w:World):(Instr.sliceAt T (.string s) (some (.int k i)) none none).run P w= .ok (.string r) w:=by
 rw [LX _ _ _ _ _ _ hT];obtain ⟨⟨h0,h1,h2⟩,rfl⟩:=C7 h;rw [run_slice_string_from_if w T s k i hT,ae ⟨h0,h1⟩];rfl
abbrev T2:=Int×Int
def a2 (t:T2):List Int:=[t.1,t.2]
theorem W.regionE {P:Program}{n:Fr}{Q:Exit->(Nat->Value)->World->Prop}(D:List Nat) (K:Cx->Prop){id:Nat}{l:List Oper}{e:Nat->Value}{c:Cx}(hm:P.follows .mixedOrders=true)
  (h:AC D K P l n Q l.length (List.replicate l.length false) e ⟨c.w.drew,c.A,c.t⟩):W P n (.region id l.toArray true) Q e c.w:=
 wpIn_region_any hm (by
  have:=tM.sound _ _ _ _ h;rw [show (List.replicate l.length false).toArray=Array.replicate l.toArray.size false by simp] at this;exact this)
theorem Own.below {c:Cx}{w':World}{G:Gm}{F:List En}(O:Own c G F) (h:RowKit.Below c.w.heap.size c.w w'):∃c':Cx,c'.w=w'/\c.le c'/\Own c' G F/\∀b o v,c.w.heap.size<=b->w'.cell? ⟨b,o,none⟩=some v->Im c' b o v:=by
 have hbut:c.but (fun _=>False) ⟨w',fun k o=>k<c.w.heap.size/\c.A k o,c.t⟩:=by
  refine ⟨⟨h.os,h.output,h.size,fun k o h1 h2=>⟨dw (w:=c.w) (a:=⟨k,o,none⟩) (h.block k h1),fun q=>h2 q.2⟩,fun k h1 _=>h.block k h1,fun a h1 _=>by simp only [World.frozen?,h.block _ h1],fun _ _ _ q=>q⟩,rfl,fun k h1 _=>⟨h.block k h1,fun o=>⟨fun q=>q.2,fun q=>⟨h1,q⟩⟩⟩⟩
 refine ⟨_,rfl,hbut.le,O.keep hbut,fun b o v hb hv=>⟨?_,fun q=>by omega,hv⟩⟩;show b<w'.heap.size;rcases aE b w'.heap.size with q|q
 ·exact q
 ·simp only [World.cell?,lL q] at hv;cases hv
end Go.Lt
namespace Go.Proofs.YtkgjnbiiiifoaaaGreatDoor
open Go Go.Lt
set_option linter.unusedVariables false
structure dZ where
 W:Int
 H:Int
def sZ:Rp dZ where
 size:=2
 cells:=fun _ l x=>l= [.int .i64 x.W,.int .i64 x.H]
 len:=by
  intro c l x h
  obtain rfl:=h
  rfl
 one:=by
  intro c l x h v hv
  obtain rfl:=h
  simp only [kM,gP,sj] at hv
  rcases hv with rfl|rfl
  ·rfl
  ·rfl
 mono:=by
  intro c c2 l x hc h
  obtain rfl:=h
  exact rfl
structure ai where
 Row:Int
 Col:Int
 Pending:Bool
structure aa where
 Kind:Int
 Text:List Int
def aw:Rp aa where
 size:=2
 cells:=fun c l x=>∃y1:Value,l= [.int .i64 x.Kind,y1]/\Sl (RI .i32) c y1 x.Text
 len:=by
  intro c l x h
  obtain ⟨_,rfl,h0⟩:=h
  rfl
 one:=by
  intro c l x h v hv
  obtain ⟨_,rfl,h0⟩:=h
  simp only [kM,gP,sj] at hv
  rcases hv with rfl|rfl
  ·rfl
  ·exact h0.one
 mono:=by
  intro c c2 l x hc h
  obtain ⟨_,rfl,h0⟩:=h
  exact ⟨_,rfl,h0.lw hc⟩
structure ah where
 Cells:List aa
 Wrap:Bool
def aN:Rp ah where
 size:=2
 cells:=fun c l x=>∃y1:Value,l= [y1,.bool x.Wrap]/\Sl aw c y1 x.Cells
 len:=by
  intro c l x h
  obtain ⟨_,rfl,h0⟩:=h
  rfl
 one:=by
  intro c l x h v hv
  obtain ⟨_,rfl,h0⟩:=h
  simp only [kM,gP,sj] at hv
  rcases hv with rfl|rfl
  ·exact h0.one
  ·rfl
 mono:=by
  intro c c2 l x hc h
  obtain ⟨_,rfl,h0⟩:=h
  exact ⟨_,rfl,h0.lw hc⟩
structure aH where
 Wide:Int
 High:Int
 Lines:List ah
 At:ai
 Auto:Bool
structure aJ where
 Kind:Int
 A:Int
 B:Int
 Bytes:List Int
def cp:Rp aJ where
 size:=4
 cells:=fun c l x=>∃y1:Value,l= [.int .i64 x.Kind,.int .i64 x.A,.int .i64 x.B,y1]/\Sl (RI .u8) c y1 x.Bytes
 len:=by
  intro c l x h
  obtain ⟨_,rfl,h0⟩:=h
  rfl
 one:=by
  intro c l x h v hv
  obtain ⟨_,rfl,h0⟩:=h
  simp only [kM,gP,sj] at hv
  rcases hv with rfl|rfl|rfl|rfl
  ·rfl
  ·rfl
  ·rfl
  ·exact h0.one
 mono:=by
  intro c c2 l x hc h
  obtain ⟨_,rfl,h0⟩:=h
  exact ⟨_,rfl,h0.lw hc⟩
structure bD where
 held:Int
 needs:Int
 lo:Int
 hi:Int
 bits:Int
structure bv where
 some:Bool
 last:Int
 pict:Int
 conj:Int
 odd:Bool
structure aD where
 words:List ByteArray
 at_:Int
 bad:Bool
structure an where
 Break:Int
 Pict:Bool
 Conj:Int
 East:Int
def cG:Rp an where
 size:=4
 cells:=fun _ l x=>l= [.int .i64 x.Break,.bool x.Pict,.int .i64 x.Conj,.int .i64 x.East]
 len:=by
  intro c l x h
  obtain rfl:=h
  rfl
 one:=by
  intro c l x h v hv
  obtain rfl:=h
  simp only [kM,gP,sj] at hv
  rcases hv with rfl|rfl|rfl|rfl
  ·rfl
  ·rfl
  ·rfl
  ·rfl
 mono:=by
  intro c c2 l x hc h
  obtain rfl:=h
  exact rfl
structure aY where
 some:Bool
 pict:Bool
 wide:Bool
structure ic where
 from_:Int
 to_:Int
 n:Int
structure bG where
 text:Int×Int×Int×Int×Int×Int×Int×Int×Int×Int×Int×Int×Int×Int×Int×Int
 n:Int
structure pm where
 Wide:Int
 Text:List Int
def tA:Rp (Int×Int) where
 size:=2
 cells:=fun _ l x=>l= [.int .i32 x.1,.int .i32 x.2]
 len:=by
  intro c l x h
  obtain rfl:=h
  rfl
 one:=by
  intro c l x h v hv
  obtain rfl:=h
  simp only [kM,gP,sj] at hv
  rcases hv with rfl|rfl
  ·rfl
  ·rfl
 mono:=fun _ h=>h
def aZ:Rp (Int×Int) where
 size:=2
 cells:=fun _ l x=>l= [.int .i64 x.1,.int .i64 x.2]
 len:=by
  intro c l x h
  obtain rfl:=h
  rfl
 one:=by
  intro c l x h v hv
  obtain rfl:=h
  simp only [kM,gP,sj] at hv
  rcases hv with rfl|rfl
  ·rfl
  ·rfl
 mono:=fun _ h=>h
def iS:Rp (Int×Int×Int) where
 size:=3
 cells:=fun _ l x=>l= [.int .i64 x.1,.int .i64 x.2.1,.int .i64 x.2.2]
 len:=by
  intro c l x h
  obtain rfl:=h
  rfl
 one:=by
  intro c l x h v hv
  obtain rfl:=h
  simp only [kM,gP,sj] at hv
  rcases hv with rfl|rfl|rfl
  ·rfl
  ·rfl
  ·rfl
 mono:=fun _ h=>h
structure bm where
 cells:List aa
 wrap:Bool
structure bV where
 rows:List (Option Nat)
structure bq where
 G:Option Nat
 At:ai
 Auto:Bool
structure bj where
 at_:ai
 wide:Int
 text:bG
 gauge:aY
structure bE where
 pen:Option Nat
 dec:bD
 seg:bv
 open_:Option Nat
structure eP where
 Feeder:Option Nat
 pen:Option Nat
structure ck where
 rest:ByteArray
 n:Int
 v:aH
def eu (G G':Gm):Prop:=∀g k,G g k≠ []->G' g k=G g k
theorem eu.refl (G:Gm):eu G G:=fun _ _ _=>rfl
theorem eu.trans {a b c:Gm}(h:eu a b) (k:eu b c):eu a c:=fun g i hi=>(k g i (by rw [h g i hi]; exact hi)).trans (h g i hi)
theorem eu.get {G G':Gm}{g k:Nat}{e:En}{l:List En}(h:eu G G') (hE:G g k=e::l):G' g k=e::l:=(h g k (by rw [hE]; exact ME _ _)).trans hE
theorem eu.nil {G G':Gm}{g k:Nat}(h:eu G G') (hE:G' g k= []):G g k= []:=by
 by_cases hn:G g k= []
 ·exact hn
 ·rw [h g k hn] at hE; exact hE
structure Sto where
 row_Row:List bm
 grid_Grid:List bV
 place_Pen:List bq
 widen_Cluster:List bj
 feed_Feeder:List bE
 screen_Screen:List eP
 snap_reader:List ck
 api_Line:List ah
def Sto.set_row_Row (s:Sto) (k:Nat) (x:bm):Option Sto:=if k<s.row_Row.length then some { s with row_Row:=s.row_Row.set k x} else none
def Sto.add_row_Row (s:Sto) (x:bm):Sto:={ s with row_Row:=s.row_Row++ [x]}
def kG (c:Cx) (t:Option Nat) (E:List En) (x:bm):Prop:=∃(b:Nat) (y1:Value) (u1:List Value),t=some b/\E= [⟨.pointer (some ⟨b,0,none⟩),175,[y1,.bool x.wrap],0⟩,es true aw y1 61 u1 x.cells]/\OA aw c y1 u1 x.cells
theorem kG.lw {c c':Cx}(k:c.lw c') (b:Nat) (E:List En) (x:bm):kG c (some b) E x->kG c' (some b) E x:=by
 rintro ⟨b,y1,u1,e1,e2,h0⟩;exact ⟨b,y1,u1,e1,e2,h0.lw k⟩
theorem kG.no {c:Cx}(E:List En) (x:bm):¬kG c none E x:=by
 rintro ⟨b,y1,u1,e1,_⟩;cases e1
def Sto.set_grid_Grid (s:Sto) (k:Nat) (x:bV):Option Sto:=if k<s.grid_Grid.length then some { s with grid_Grid:=s.grid_Grid.set k x} else none
def Sto.add_grid_Grid (s:Sto) (x:bV):Sto:={ s with grid_Grid:=s.grid_Grid++ [x]}
def gU (c:Cx) (t:Option Nat) (E:List En) (x:bV):Prop:=∃(b:Nat) (y1:Value) (u1:List Value),t=some b/\E= [⟨.pointer (some ⟨b,0,none⟩),124,[y1],0⟩,es true (RP 0) y1 120 u1 x.rows]/\OA (RP 0) c y1 u1 x.rows
theorem gU.lw {c c':Cx}(k:c.lw c') (b:Nat) (E:List En) (x:bV):gU c (some b) E x->gU c' (some b) E x:=by
 rintro ⟨b,y1,u1,e1,e2,h0⟩;exact ⟨b,y1,u1,e1,e2,h0.lw k⟩
theorem gU.no {c:Cx}(E:List En) (x:bV):¬gU c none E x:=by
 rintro ⟨b,y1,u1,e1,_⟩;cases e1
def Sto.set_place_Pen (s:Sto) (k:Nat) (x:bq):Option Sto:=if k<s.place_Pen.length then some { s with place_Pen:=s.place_Pen.set k x} else none
def Sto.add_place_Pen (s:Sto) (x:bq):Sto:={ s with place_Pen:=s.place_Pen++ [x]}
def gS (c:Cx) (t:Option Nat) (E:List En) (x:bq):Prop:=∃(b:Nat) (y1:Value),t=some b/\E= [⟨.pointer (some ⟨b,0,none⟩),73,[y1,.int .i64 x.At.Row,.int .i64 x.At.Col,.bool x.At.Pending,.bool x.Auto],0⟩]/\Pt 1 c y1 x.G
theorem gS.lw {c c':Cx}(k:c.lw c') (b:Nat) (E:List En) (x:bq):gS c (some b) E x->gS c' (some b) E x:=by
 rintro ⟨b,y1,e1,e2,h0⟩;exact ⟨b,y1,e1,e2,h0.lw k⟩
theorem gS.no {c:Cx}(E:List En) (x:bq):¬gS c none E x:=by
 rintro ⟨b,y1,e1,_⟩;cases e1
def Sto.set_widen_Cluster (s:Sto) (k:Nat) (x:bj):Option Sto:=if k<s.widen_Cluster.length then some { s with widen_Cluster:=s.widen_Cluster.set k x} else none
def Sto.add_widen_Cluster (s:Sto) (x:bj):Sto:={ s with widen_Cluster:=s.widen_Cluster++ [x]}
def em (c:Cx) (t:Option Nat) (E:List En) (x:bj):Prop:=∃(b:Nat),t=some b/\E= [⟨.pointer (some ⟨b,0,none⟩),298,[.int .i64 x.at_.Row,.int .i64 x.at_.Col,.bool x.at_.Pending,.int .i64 x.wide,.int .i32 x.text.text.1,.int .i32 x.text.text.2.1,.int .i32 x.text.text.2.2.1,.int .i32 x.text.text.2.2.2.1,.int .i32 x.text.text.2.2.2.2.1,.int .i32 x.text.text.2.2.2.2.2.1,.int .i32 x.text.text.2.2.2.2.2.2.1,.int .i32 x.text.text.2.2.2.2.2.2.2.1,.int .i32 x.text.text.2.2.2.2.2.2.2.2.1,.int .i32 x.text.text.2.2.2.2.2.2.2.2.2.1,.int .i32 x.text.text.2.2.2.2.2.2.2.2.2.2.1,.int .i32 x.text.text.2.2.2.2.2.2.2.2.2.2.2.1,.int .i32 x.text.text.2.2.2.2.2.2.2.2.2.2.2.2.1,.int .i32 x.text.text.2.2.2.2.2.2.2.2.2.2.2.2.2.1,.int .i32 x.text.text.2.2.2.2.2.2.2.2.2.2.2.2.2.2.1,.int .i32 x.text.text.2.2.2.2.2.2.2.2.2.2.2.2.2.2.2,.int .i64 x.text.n,.bool x.gauge.some,.bool x.gauge.pict,.bool x.gauge.wide],0⟩]
theorem em.lw {c c':Cx}(k:c.lw c') (b:Nat) (E:List En) (x:bj):em c (some b) E x->em c' (some b) E x:=by
 rintro ⟨b,e1,e2⟩;exact ⟨b,e1,e2⟩
theorem em.no {c:Cx}(E:List En) (x:bj):¬em c none E x:=by
 rintro ⟨b,e1,_⟩;cases e1
def Sto.set_feed_Feeder (s:Sto) (k:Nat) (x:bE):Option Sto:=if k<s.feed_Feeder.length then some { s with feed_Feeder:=s.feed_Feeder.set k x} else none
def Sto.add_feed_Feeder (s:Sto) (x:bE):Sto:={ s with feed_Feeder:=s.feed_Feeder++ [x]}
def fj (c:Cx) (t:Option Nat) (E:List En) (x:bE):Prop:=∃(b:Nat) (y1:Value) (y2:Value),t=some b/\E= [⟨.pointer (some ⟨b,0,none⟩),115,[y1,.int .i64 x.dec.held,.int .i64 x.dec.needs,.int .u8 x.dec.lo,.int .u8 x.dec.hi,.int .i64 x.dec.bits,.bool x.seg.some,.int .i64 x.seg.last,.int .i64 x.seg.pict,.int .i64 x.seg.conj,.bool x.seg.odd,y2],0⟩]/\Pt 2 c y1 x.pen/\Pt 3 c y2 x.open_
theorem fj.lw {c c':Cx}(k:c.lw c') (b:Nat) (E:List En) (x:bE):fj c (some b) E x->fj c' (some b) E x:=by
 rintro ⟨b,y1,y2,e1,e2,h0,h1⟩;exact ⟨b,y1,y2,e1,e2,h0.lw k,h1.lw k⟩
theorem fj.no {c:Cx}(E:List En) (x:bE):¬fj c none E x:=by
 rintro ⟨b,y1,y2,e1,_⟩;cases e1
def Sto.add_screen_Screen (s:Sto) (x:eP):Sto:={ s with screen_Screen:=s.screen_Screen++ [x]}
def eO (c:Cx) (t:Option Nat) (E:List En) (x:eP):Prop:=∃(b:Nat) (y1:Value) (y2:Value),t=some b/\E= [⟨.pointer (some ⟨b,0,none⟩),67,[y1,y2],0⟩]/\Pt 4 c y1 x.Feeder/\Pt 2 c y2 x.pen
theorem eO.lw {c c':Cx}(k:c.lw c') (b:Nat) (E:List En) (x:eP):eO c (some b) E x->eO c' (some b) E x:=by
 rintro ⟨b,y1,y2,e1,e2,h0,h1⟩;exact ⟨b,y1,y2,e1,e2,h0.lw k,h1.lw k⟩
theorem eO.no {c:Cx}(E:List En) (x:eP):¬eO c none E x:=by
 rintro ⟨b,y1,y2,e1,_⟩;cases e1
def Sto.set_snap_reader (s:Sto) (k:Nat) (x:ck):Option Sto:=if k<s.snap_reader.length then some { s with snap_reader:=s.snap_reader.set k x} else none
def Sto.add_snap_reader (s:Sto) (x:ck):Sto:={ s with snap_reader:=s.snap_reader++ [x]}
def fi (c:Cx) (t:Option Nat) (E:List En) (x:ck):Prop:=∃(b:Nat) (y1:Value) (u1:List Value),t=some b/\E= [⟨.pointer (some ⟨b,0,none⟩),78,[.string x.rest,.int .i64 x.n,.int .i64 x.v.Wide,.int .i64 x.v.High,y1,.int .i64 x.v.At.Row,.int .i64 x.v.At.Col,.bool x.v.At.Pending,.bool x.v.Auto],0⟩,es false aN y1 56 u1 x.v.Lines]/\OA aN c y1 u1 x.v.Lines
theorem fi.lw {c c':Cx}(k:c.lw c') (b:Nat) (E:List En) (x:ck):fi c (some b) E x->fi c' (some b) E x:=by
 rintro ⟨b,y1,u1,e1,e2,h0⟩;exact ⟨b,y1,u1,e1,e2,h0.lw k⟩
theorem fi.no {c:Cx}(E:List En) (x:ck):¬fi c none E x:=by
 rintro ⟨b,y1,u1,e1,_⟩;cases e1
def Sto.set_api_Line (s:Sto) (k:Nat) (x:ah):Option Sto:=if k<s.api_Line.length then some { s with api_Line:=s.api_Line.set k x} else none
def Sto.add_api_Line (s:Sto) (x:ah):Sto:={ s with api_Line:=s.api_Line++ [x]}
def jv (c:Cx) (t:Option Nat) (E:List En) (x:ah):Prop:=∃(b:Nat) (y1:Value) (u1:List Value),t=some b/\E= [⟨.pointer (some ⟨b,0,none⟩),56,[y1,.bool x.Wrap],0⟩,es false aw y1 61 u1 x.Cells]/\OA aw c y1 u1 x.Cells
theorem jv.lw {c c':Cx}(k:c.lw c') (b:Nat) (E:List En) (x:ah):jv c (some b) E x->jv c' (some b) E x:=by
 rintro ⟨b,y1,u1,e1,e2,h0⟩;exact ⟨b,y1,u1,e1,e2,h0.lw k⟩
theorem jv.no {c:Cx}(E:List En) (x:ah):¬jv c none E x:=by
 rintro ⟨b,y1,u1,e1,_⟩;cases e1
structure Rel (c:Cx) (s:Sto) (G:Gm):Prop where
 row_Row:Rl kG 0 c G s.row_Row
 grid_Grid:Rl gU 1 c G s.grid_Grid
 place_Pen:Rl gS 2 c G s.place_Pen
 widen_Cluster:Rl em 3 c G s.widen_Cluster
 feed_Feeder:Rl fj 4 c G s.feed_Feeder
 screen_Screen:Rl eO 5 c G s.screen_Screen
 snap_reader:Rl fi 6 c G s.snap_reader
 api_Line:Rl jv 7 c G s.api_Line
theorem Rel.lw {c c':Cx}{s:Sto}{G:Gm}(h:Rel c s G) (k:c.lw c'):Rel c' s G:=
 ⟨h.row_Row.mono (kG.lw k) kG.no k,h.grid_Grid.mono (gU.lw k) gU.no k,h.place_Pen.mono (gS.lw k) gS.no k,h.widen_Cluster.mono (em.lw k) em.no k,h.feed_Feeder.mono (fj.lw k) fj.no k,h.screen_Screen.mono (eO.lw k) eO.no k,h.snap_reader.mono (fi.lw k) fi.no k,h.api_Line.mono (jv.lw k) jv.no k⟩
theorem Rel.mono {c c':Cx}{s:Sto}{G:Gm}(h:Rel c s G) (k:c.le c'):Rel c' s G:=h.lw k.lw
theorem Rel.m {c c':Cx}{s:Sto}{G:Gm}(h:Rel c s G) (k:c.le c':=by repeat (first|assumption|refine Cx.le.trans ?_ (by assumption))):Rel c' s G:=h.mono k
theorem Rel.open_row_Row {c:Cx}{s:Sto}{G:Gm}{k b:Nat}{x:bm}(R:Rel c s G) (hx:s.row_Row[k]? = some x) (ht:c.t 0 k=some b):∃(y1:Value) (u1:List Value),G 0 k= [⟨.pointer (some ⟨b,0,none⟩),175,[y1,.bool x.wrap],0⟩,es true aw y1 61 u1 x.cells]/\OA aw c y1 u1 x.cells:=by
 obtain ⟨b',y1,u1,e1,e2,h0⟩:=R.row_Row.ob k x hx;rw [ht] at e1;cases e1;exact ⟨y1,u1,e2,h0⟩
theorem Rel.put_row_Row {c:Cx}{s s':Sto}{G:Gm}{F:List En}{k:Nat}{E':List En}{x':bm}(O:Own c (jS G 0 k E') F) (R:Rel c s G) (h:s.set_row_Row k x'=some s') (hY:kG c (c.t 0 k) E' x'):
  ∃G',Own c G' F/\Rel c s' G'/\G' 0 k=E'/\∀G0,eu G0 G->G0 0 k= []->eu G0 G':=by
 unfold Sto.set_row_Row at h;split at h
 ·rename_i hk
  cases h;refine ⟨_,O,⟨R.row_Row.set hk hY,R.grid_Grid.other (by decide),R.place_Pen.other (by decide),R.widen_Cluster.other (by decide),R.feed_Feeder.other (by decide),R.screen_Screen.other (by decide),R.snap_reader.other (by decide),R.api_Line.other (by decide)⟩,cQ _ _ _ _,fun G0 h1 h2 g' k' h3=>?_⟩;rw [eL (by rintro ⟨rfl,rfl⟩; exact h3 h2)];exact h1 g' k' h3
 ·cases h
theorem Rel.new_row_Row {c:Cx}{s:Sto}{G:Gm}{F E:List En}{x:bm}{b:Nat}(O:Own c G (E++F)) (R:Rel c s G) (hY:∀c',c.le c'->kG c' (some b) E x):
  ∃c' G',(c'.w=c.w/\c'.A=c.A)/\c.le c'/\c'.t 0 s.row_Row.length=some b/\Own c' G' F/\Rel c' (s.add_row_Row x) G'/\G' 0 s.row_Row.length=E/\G 0 s.row_Row.length= []/\eu G G':=by
 have hE:=R.row_Row.no _ (av _);have hne:E≠ []:=by
  obtain ⟨_,_,_,_,rfl,_⟩:=hY c (Cx.le.refl c);simp
 obtain ⟨c',hw,hle,ht,O'⟩:=Own.newObj (b:=b) O hE hne;have R':=R.mono hle;refine ⟨c',_,hw,hle,ht,O',⟨R'.row_Row.new (by rw [ht]; exact hY c' hle),R'.grid_Grid.other (by decide),R'.place_Pen.other (by decide),R'.widen_Cluster.other (by decide),R'.feed_Feeder.other (by decide),R'.screen_Screen.other (by decide),R'.snap_reader.other (by decide),R'.api_Line.other (by decide)⟩,cQ _ _ _ _,hE,fun g' k' h3=>?_⟩;exact eL (by rintro ⟨rfl,rfl⟩; exact h3 hE)
theorem Rel.open_grid_Grid {c:Cx}{s:Sto}{G:Gm}{k b:Nat}{x:bV}(R:Rel c s G) (hx:s.grid_Grid[k]? = some x) (ht:c.t 1 k=some b):∃(y1:Value) (u1:List Value),G 1 k= [⟨.pointer (some ⟨b,0,none⟩),124,[y1],0⟩,es true (RP 0) y1 120 u1 x.rows]/\OA (RP 0) c y1 u1 x.rows:=by
 obtain ⟨b',y1,u1,e1,e2,h0⟩:=R.grid_Grid.ob k x hx;rw [ht] at e1;cases e1;exact ⟨y1,u1,e2,h0⟩
theorem Rel.put_grid_Grid {c:Cx}{s s':Sto}{G:Gm}{F:List En}{k:Nat}{E':List En}{x':bV}(O:Own c (jS G 1 k E') F) (R:Rel c s G) (h:s.set_grid_Grid k x'=some s') (hY:gU c (c.t 1 k) E' x'):
  ∃G',Own c G' F/\Rel c s' G'/\G' 1 k=E'/\∀G0,eu G0 G->G0 1 k= []->eu G0 G':=by
 unfold Sto.set_grid_Grid at h;split at h
 ·rename_i hk
  cases h;refine ⟨_,O,⟨R.row_Row.other (by decide),R.grid_Grid.set hk hY,R.place_Pen.other (by decide),R.widen_Cluster.other (by decide),R.feed_Feeder.other (by decide),R.screen_Screen.other (by decide),R.snap_reader.other (by decide),R.api_Line.other (by decide)⟩,cQ _ _ _ _,fun G0 h1 h2 g' k' h3=>?_⟩;rw [eL (by rintro ⟨rfl,rfl⟩; exact h3 h2)];exact h1 g' k' h3
 ·cases h
theorem Rel.new_grid_Grid {c:Cx}{s:Sto}{G:Gm}{F E:List En}{x:bV}{b:Nat}(O:Own c G (E++F)) (R:Rel c s G) (hY:∀c',c.le c'->gU c' (some b) E x):
  ∃c' G',(c'.w=c.w/\c'.A=c.A)/\c.le c'/\c'.t 1 s.grid_Grid.length=some b/\Own c' G' F/\Rel c' (s.add_grid_Grid x) G'/\G' 1 s.grid_Grid.length=E/\G 1 s.grid_Grid.length= []/\eu G G':=by
 have hE:=R.grid_Grid.no _ (av _);have hne:E≠ []:=by
  obtain ⟨_,_,_,_,rfl,_⟩:=hY c (Cx.le.refl c);simp
 obtain ⟨c',hw,hle,ht,O'⟩:=Own.newObj (b:=b) O hE hne;have R':=R.mono hle;refine ⟨c',_,hw,hle,ht,O',⟨R'.row_Row.other (by decide),R'.grid_Grid.new (by rw [ht]; exact hY c' hle),R'.place_Pen.other (by decide),R'.widen_Cluster.other (by decide),R'.feed_Feeder.other (by decide),R'.screen_Screen.other (by decide),R'.snap_reader.other (by decide),R'.api_Line.other (by decide)⟩,cQ _ _ _ _,hE,fun g' k' h3=>?_⟩;exact eL (by rintro ⟨rfl,rfl⟩; exact h3 hE)
theorem Rel.open_place_Pen {c:Cx}{s:Sto}{G:Gm}{k b:Nat}{x:bq}(R:Rel c s G) (hx:s.place_Pen[k]? = some x) (ht:c.t 2 k=some b):∃(y1:Value),G 2 k= [⟨.pointer (some ⟨b,0,none⟩),73,[y1,.int .i64 x.At.Row,.int .i64 x.At.Col,.bool x.At.Pending,.bool x.Auto],0⟩]/\Pt 1 c y1 x.G:=by
 obtain ⟨b',y1,e1,e2,h0⟩:=R.place_Pen.ob k x hx;rw [ht] at e1;cases e1;exact ⟨y1,e2,h0⟩
theorem Rel.put_place_Pen {c:Cx}{s s':Sto}{G:Gm}{F:List En}{k:Nat}{E':List En}{x':bq}(O:Own c (jS G 2 k E') F) (R:Rel c s G) (h:s.set_place_Pen k x'=some s') (hY:gS c (c.t 2 k) E' x'):
  ∃G',Own c G' F/\Rel c s' G'/\G' 2 k=E'/\∀G0,eu G0 G->G0 2 k= []->eu G0 G':=by
 unfold Sto.set_place_Pen at h;split at h
 ·rename_i hk
  cases h;refine ⟨_,O,⟨R.row_Row.other (by decide),R.grid_Grid.other (by decide),R.place_Pen.set hk hY,R.widen_Cluster.other (by decide),R.feed_Feeder.other (by decide),R.screen_Screen.other (by decide),R.snap_reader.other (by decide),R.api_Line.other (by decide)⟩,cQ _ _ _ _,fun G0 h1 h2 g' k' h3=>?_⟩;rw [eL (by rintro ⟨rfl,rfl⟩; exact h3 h2)];exact h1 g' k' h3
 ·cases h
theorem Rel.new_place_Pen {c:Cx}{s:Sto}{G:Gm}{F E:List En}{x:bq}{b:Nat}(O:Own c G (E++F)) (R:Rel c s G) (hY:∀c',c.le c'->gS c' (some b) E x):
  ∃c' G',(c'.w=c.w/\c'.A=c.A)/\c.le c'/\c'.t 2 s.place_Pen.length=some b/\Own c' G' F/\Rel c' (s.add_place_Pen x) G'/\G' 2 s.place_Pen.length=E/\G 2 s.place_Pen.length= []/\eu G G':=by
 have hE:=R.place_Pen.no _ (av _);have hne:E≠ []:=by
  obtain ⟨_,_,_,rfl,_⟩:=hY c (Cx.le.refl c);simp
 obtain ⟨c',hw,hle,ht,O'⟩:=Own.newObj (b:=b) O hE hne;have R':=R.mono hle;refine ⟨c',_,hw,hle,ht,O',⟨R'.row_Row.other (by decide),R'.grid_Grid.other (by decide),R'.place_Pen.new (by rw [ht]; exact hY c' hle),R'.widen_Cluster.other (by decide),R'.feed_Feeder.other (by decide),R'.screen_Screen.other (by decide),R'.snap_reader.other (by decide),R'.api_Line.other (by decide)⟩,cQ _ _ _ _,hE,fun g' k' h3=>?_⟩;exact eL (by rintro ⟨rfl,rfl⟩; exact h3 hE)
theorem Rel.open_widen_Cluster {c:Cx}{s:Sto}{G:Gm}{k b:Nat}{x:bj}(R:Rel c s G) (hx:s.widen_Cluster[k]? = some x) (ht:c.t 3 k=some b):G 3 k= [⟨.pointer (some ⟨b,0,none⟩),298,[.int .i64 x.at_.Row,.int .i64 x.at_.Col,.bool x.at_.Pending,.int .i64 x.wide,.int .i32 x.text.text.1,.int .i32 x.text.text.2.1,.int .i32 x.text.text.2.2.1,.int .i32 x.text.text.2.2.2.1,.int .i32 x.text.text.2.2.2.2.1,.int .i32 x.text.text.2.2.2.2.2.1,.int .i32 x.text.text.2.2.2.2.2.2.1,.int .i32 x.text.text.2.2.2.2.2.2.2.1,.int .i32 x.text.text.2.2.2.2.2.2.2.2.1,.int .i32 x.text.text.2.2.2.2.2.2.2.2.2.1,.int .i32 x.text.text.2.2.2.2.2.2.2.2.2.2.1,.int .i32 x.text.text.2.2.2.2.2.2.2.2.2.2.2.1,.int .i32 x.text.text.2.2.2.2.2.2.2.2.2.2.2.2.1,.int .i32 x.text.text.2.2.2.2.2.2.2.2.2.2.2.2.2.1,.int .i32 x.text.text.2.2.2.2.2.2.2.2.2.2.2.2.2.2.1,.int .i32 x.text.text.2.2.2.2.2.2.2.2.2.2.2.2.2.2.2,.int .i64 x.text.n,.bool x.gauge.some,.bool x.gauge.pict,.bool x.gauge.wide],0⟩]:=by
 obtain ⟨b',e1,e2⟩:=R.widen_Cluster.ob k x hx;rw [ht] at e1;cases e1;exact e2
theorem Rel.put_widen_Cluster {c:Cx}{s s':Sto}{G:Gm}{F:List En}{k:Nat}{E':List En}{x':bj}(O:Own c (jS G 3 k E') F) (R:Rel c s G) (h:s.set_widen_Cluster k x'=some s') (hY:em c (c.t 3 k) E' x'):
  ∃G',Own c G' F/\Rel c s' G'/\G' 3 k=E'/\∀G0,eu G0 G->G0 3 k= []->eu G0 G':=by
 unfold Sto.set_widen_Cluster at h;split at h
 ·rename_i hk
  cases h;refine ⟨_,O,⟨R.row_Row.other (by decide),R.grid_Grid.other (by decide),R.place_Pen.other (by decide),R.widen_Cluster.set hk hY,R.feed_Feeder.other (by decide),R.screen_Screen.other (by decide),R.snap_reader.other (by decide),R.api_Line.other (by decide)⟩,cQ _ _ _ _,fun G0 h1 h2 g' k' h3=>?_⟩;rw [eL (by rintro ⟨rfl,rfl⟩; exact h3 h2)];exact h1 g' k' h3
 ·cases h
theorem Rel.new_widen_Cluster {c:Cx}{s:Sto}{G:Gm}{F E:List En}{x:bj}{b:Nat}(O:Own c G (E++F)) (R:Rel c s G) (hY:∀c',c.le c'->em c' (some b) E x):
  ∃c' G',(c'.w=c.w/\c'.A=c.A)/\c.le c'/\c'.t 3 s.widen_Cluster.length=some b/\Own c' G' F/\Rel c' (s.add_widen_Cluster x) G'/\G' 3 s.widen_Cluster.length=E/\G 3 s.widen_Cluster.length= []/\eu G G':=by
 have hE:=R.widen_Cluster.no _ (av _);have hne:E≠ []:=by
  obtain ⟨_,_,rfl,_⟩:=hY c (Cx.le.refl c);simp
 obtain ⟨c',hw,hle,ht,O'⟩:=Own.newObj (b:=b) O hE hne;have R':=R.mono hle;refine ⟨c',_,hw,hle,ht,O',⟨R'.row_Row.other (by decide),R'.grid_Grid.other (by decide),R'.place_Pen.other (by decide),R'.widen_Cluster.new (by rw [ht]; exact hY c' hle),R'.feed_Feeder.other (by decide),R'.screen_Screen.other (by decide),R'.snap_reader.other (by decide),R'.api_Line.other (by decide)⟩,cQ _ _ _ _,hE,fun g' k' h3=>?_⟩;exact eL (by rintro ⟨rfl,rfl⟩; exact h3 hE)
theorem Rel.open_feed_Feeder {c:Cx}{s:Sto}{G:Gm}{k b:Nat}{x:bE}(R:Rel c s G) (hx:s.feed_Feeder[k]? = some x) (ht:c.t 4 k=some b):∃(y1:Value) (y2:Value),G 4 k= [⟨.pointer (some ⟨b,0,none⟩),115,[y1,.int .i64 x.dec.held,.int .i64 x.dec.needs,.int .u8 x.dec.lo,.int .u8 x.dec.hi,.int .i64 x.dec.bits,.bool x.seg.some,.int .i64 x.seg.last,.int .i64 x.seg.pict,.int .i64 x.seg.conj,.bool x.seg.odd,y2],0⟩]/\Pt 2 c y1 x.pen/\Pt 3 c y2 x.open_:=by
 obtain ⟨b',y1,y2,e1,e2,h0,h1⟩:=R.feed_Feeder.ob k x hx;rw [ht] at e1;cases e1;exact ⟨y1,y2,e2,h0,h1⟩
theorem Rel.put_feed_Feeder {c:Cx}{s s':Sto}{G:Gm}{F:List En}{k:Nat}{E':List En}{x':bE}(O:Own c (jS G 4 k E') F) (R:Rel c s G) (h:s.set_feed_Feeder k x'=some s') (hY:fj c (c.t 4 k) E' x'):
  ∃G',Own c G' F/\Rel c s' G'/\G' 4 k=E'/\∀G0,eu G0 G->G0 4 k= []->eu G0 G':=by
 unfold Sto.set_feed_Feeder at h;split at h
 ·rename_i hk
  cases h;refine ⟨_,O,⟨R.row_Row.other (by decide),R.grid_Grid.other (by decide),R.place_Pen.other (by decide),R.widen_Cluster.other (by decide),R.feed_Feeder.set hk hY,R.screen_Screen.other (by decide),R.snap_reader.other (by decide),R.api_Line.other (by decide)⟩,cQ _ _ _ _,fun G0 h1 h2 g' k' h3=>?_⟩;rw [eL (by rintro ⟨rfl,rfl⟩; exact h3 h2)];exact h1 g' k' h3
 ·cases h
theorem Rel.new_feed_Feeder {c:Cx}{s:Sto}{G:Gm}{F E:List En}{x:bE}{b:Nat}(O:Own c G (E++F)) (R:Rel c s G) (hY:∀c',c.le c'->fj c' (some b) E x):
  ∃c' G',(c'.w=c.w/\c'.A=c.A)/\c.le c'/\c'.t 4 s.feed_Feeder.length=some b/\Own c' G' F/\Rel c' (s.add_feed_Feeder x) G'/\G' 4 s.feed_Feeder.length=E/\G 4 s.feed_Feeder.length= []/\eu G G':=by
 have hE:=R.feed_Feeder.no _ (av _);have hne:E≠ []:=by
  obtain ⟨_,_,_,_,rfl,_⟩:=hY c (Cx.le.refl c);simp
 obtain ⟨c',hw,hle,ht,O'⟩:=Own.newObj (b:=b) O hE hne;have R':=R.mono hle;refine ⟨c',_,hw,hle,ht,O',⟨R'.row_Row.other (by decide),R'.grid_Grid.other (by decide),R'.place_Pen.other (by decide),R'.widen_Cluster.other (by decide),R'.feed_Feeder.new (by rw [ht]; exact hY c' hle),R'.screen_Screen.other (by decide),R'.snap_reader.other (by decide),R'.api_Line.other (by decide)⟩,cQ _ _ _ _,hE,fun g' k' h3=>?_⟩;exact eL (by rintro ⟨rfl,rfl⟩; exact h3 hE)
theorem Rel.open_screen_Screen {c:Cx}{s:Sto}{G:Gm}{k b:Nat}{x:eP}(R:Rel c s G) (hx:s.screen_Screen[k]? = some x) (ht:c.t 5 k=some b):∃(y1:Value) (y2:Value),G 5 k= [⟨.pointer (some ⟨b,0,none⟩),67,[y1,y2],0⟩]/\Pt 4 c y1 x.Feeder/\Pt 2 c y2 x.pen:=by
 obtain ⟨b',y1,y2,e1,e2,h0,h1⟩:=R.screen_Screen.ob k x hx;rw [ht] at e1;cases e1;exact ⟨y1,y2,e2,h0,h1⟩
theorem Rel.new_screen_Screen {c:Cx}{s:Sto}{G:Gm}{F E:List En}{x:eP}{b:Nat}(O:Own c G (E++F)) (R:Rel c s G) (hY:∀c',c.le c'->eO c' (some b) E x):
  ∃c' G',(c'.w=c.w/\c'.A=c.A)/\c.le c'/\c'.t 5 s.screen_Screen.length=some b/\Own c' G' F/\Rel c' (s.add_screen_Screen x) G'/\G' 5 s.screen_Screen.length=E/\G 5 s.screen_Screen.length= []/\eu G G':=by
 have hE:=R.screen_Screen.no _ (av _);have hne:E≠ []:=by
  obtain ⟨_,_,_,_,rfl,_⟩:=hY c (Cx.le.refl c);simp
 obtain ⟨c',hw,hle,ht,O'⟩:=Own.newObj (b:=b) O hE hne;have R':=R.mono hle;refine ⟨c',_,hw,hle,ht,O',⟨R'.row_Row.other (by decide),R'.grid_Grid.other (by decide),R'.place_Pen.other (by decide),R'.widen_Cluster.other (by decide),R'.feed_Feeder.other (by decide),R'.screen_Screen.new (by rw [ht]; exact hY c' hle),R'.snap_reader.other (by decide),R'.api_Line.other (by decide)⟩,cQ _ _ _ _,hE,fun g' k' h3=>?_⟩;exact eL (by rintro ⟨rfl,rfl⟩; exact h3 hE)
theorem Rel.open_snap_reader {c:Cx}{s:Sto}{G:Gm}{k b:Nat}{x:ck}(R:Rel c s G) (hx:s.snap_reader[k]? = some x) (ht:c.t 6 k=some b):∃(y1:Value) (u1:List Value),G 6 k= [⟨.pointer (some ⟨b,0,none⟩),78,[.string x.rest,.int .i64 x.n,.int .i64 x.v.Wide,.int .i64 x.v.High,y1,.int .i64 x.v.At.Row,.int .i64 x.v.At.Col,.bool x.v.At.Pending,.bool x.v.Auto],0⟩,es false aN y1 56 u1 x.v.Lines]/\OA aN c y1 u1 x.v.Lines:=by
 obtain ⟨b',y1,u1,e1,e2,h0⟩:=R.snap_reader.ob k x hx;rw [ht] at e1;cases e1;exact ⟨y1,u1,e2,h0⟩
theorem Rel.put_snap_reader {c:Cx}{s s':Sto}{G:Gm}{F:List En}{k:Nat}{E':List En}{x':ck}(O:Own c (jS G 6 k E') F) (R:Rel c s G) (h:s.set_snap_reader k x'=some s') (hY:fi c (c.t 6 k) E' x'):
  ∃G',Own c G' F/\Rel c s' G'/\G' 6 k=E'/\∀G0,eu G0 G->G0 6 k= []->eu G0 G':=by
 unfold Sto.set_snap_reader at h;split at h
 ·rename_i hk
  cases h;refine ⟨_,O,⟨R.row_Row.other (by decide),R.grid_Grid.other (by decide),R.place_Pen.other (by decide),R.widen_Cluster.other (by decide),R.feed_Feeder.other (by decide),R.screen_Screen.other (by decide),R.snap_reader.set hk hY,R.api_Line.other (by decide)⟩,cQ _ _ _ _,fun G0 h1 h2 g' k' h3=>?_⟩;rw [eL (by rintro ⟨rfl,rfl⟩; exact h3 h2)];exact h1 g' k' h3
 ·cases h
theorem Rel.new_snap_reader {c:Cx}{s:Sto}{G:Gm}{F E:List En}{x:ck}{b:Nat}(O:Own c G (E++F)) (R:Rel c s G) (hY:∀c',c.le c'->fi c' (some b) E x):
  ∃c' G',(c'.w=c.w/\c'.A=c.A)/\c.le c'/\c'.t 6 s.snap_reader.length=some b/\Own c' G' F/\Rel c' (s.add_snap_reader x) G'/\G' 6 s.snap_reader.length=E/\G 6 s.snap_reader.length= []/\eu G G':=by
 have hE:=R.snap_reader.no _ (av _);have hne:E≠ []:=by
  obtain ⟨_,_,_,_,rfl,_⟩:=hY c (Cx.le.refl c);simp
 obtain ⟨c',hw,hle,ht,O'⟩:=Own.newObj (b:=b) O hE hne;have R':=R.mono hle;refine ⟨c',_,hw,hle,ht,O',⟨R'.row_Row.other (by decide),R'.grid_Grid.other (by decide),R'.place_Pen.other (by decide),R'.widen_Cluster.other (by decide),R'.feed_Feeder.other (by decide),R'.screen_Screen.other (by decide),R'.snap_reader.new (by rw [ht]; exact hY c' hle),R'.api_Line.other (by decide)⟩,cQ _ _ _ _,hE,fun g' k' h3=>?_⟩;exact eL (by rintro ⟨rfl,rfl⟩; exact h3 hE)
theorem Rel.open_api_Line {c:Cx}{s:Sto}{G:Gm}{k b:Nat}{x:ah}(R:Rel c s G) (hx:s.api_Line[k]? = some x) (ht:c.t 7 k=some b):∃(y1:Value) (u1:List Value),G 7 k= [⟨.pointer (some ⟨b,0,none⟩),56,[y1,.bool x.Wrap],0⟩,es false aw y1 61 u1 x.Cells]/\OA aw c y1 u1 x.Cells:=by
 obtain ⟨b',y1,u1,e1,e2,h0⟩:=R.api_Line.ob k x hx;rw [ht] at e1;cases e1;exact ⟨y1,u1,e2,h0⟩
theorem Rel.put_api_Line {c:Cx}{s s':Sto}{G:Gm}{F:List En}{k:Nat}{E':List En}{x':ah}(O:Own c (jS G 7 k E') F) (R:Rel c s G) (h:s.set_api_Line k x'=some s') (hY:jv c (c.t 7 k) E' x'):
  ∃G',Own c G' F/\Rel c s' G'/\G' 7 k=E'/\∀G0,eu G0 G->G0 7 k= []->eu G0 G':=by
 unfold Sto.set_api_Line at h;split at h
 ·rename_i hk
  cases h;refine ⟨_,O,⟨R.row_Row.other (by decide),R.grid_Grid.other (by decide),R.place_Pen.other (by decide),R.widen_Cluster.other (by decide),R.feed_Feeder.other (by decide),R.screen_Screen.other (by decide),R.snap_reader.other (by decide),R.api_Line.set hk hY⟩,cQ _ _ _ _,fun G0 h1 h2 g' k' h3=>?_⟩;rw [eL (by rintro ⟨rfl,rfl⟩; exact h3 h2)];exact h1 g' k' h3
 ·cases h
theorem Rel.new_api_Line {c:Cx}{s:Sto}{G:Gm}{F E:List En}{x:ah}{b:Nat}(O:Own c G (E++F)) (R:Rel c s G) (hY:∀c',c.le c'->jv c' (some b) E x):
  ∃c' G',(c'.w=c.w/\c'.A=c.A)/\c.le c'/\c'.t 7 s.api_Line.length=some b/\Own c' G' F/\Rel c' (s.add_api_Line x) G'/\G' 7 s.api_Line.length=E/\G 7 s.api_Line.length= []/\eu G G':=by
 have hE:=R.api_Line.no _ (av _);have hne:E≠ []:=by
  obtain ⟨_,_,_,_,rfl,_⟩:=hY c (Cx.le.refl c);simp
 obtain ⟨c',hw,hle,ht,O'⟩:=Own.newObj (b:=b) O hE hne;have R':=R.mono hle;refine ⟨c',_,hw,hle,ht,O',⟨R'.row_Row.other (by decide),R'.grid_Grid.other (by decide),R'.place_Pen.other (by decide),R'.widen_Cluster.other (by decide),R'.feed_Feeder.other (by decide),R'.screen_Screen.other (by decide),R'.snap_reader.other (by decide),R'.api_Line.new (by rw [ht]; exact hY c' hle)⟩,cQ _ _ _ _,hE,fun g' k' h3=>?_⟩;exact eL (by rintro ⟨rfl,rfl⟩; exact h3 hE)
def Gl (n:List Nat) (c:Cx):Prop:=(∀g,g∈n->∃v,RE 352 80 c v (.sent g))/\∀g g',g∈n->g'∈n->g≠g'->∀a,Im c g 0 (.iface 352 (.pointer (some a)))->Im c g' 0 (.iface 352 (.pointer (some a)))->False
theorem Gl.lw {n:List Nat}{c c':Cx}(h:Gl n c) (k:c.lw c'):Gl n c':=by
 have key:∀g,g∈n->∀u,Im c' g 0 u->Im c g 0 u:=fun g hg u hu=>by
  obtain ⟨v,hv⟩:=h.1 g hg;have h1:=hv.im;have h2:=h1.lw k;have h3:=h2.cell.symm.trans hu.cell;cases h3;exact h1
 exact ⟨fun g hg=>(h.1 g hg).imp fun v hv=>hv.lw k,fun g g' hg hg' hne a h1 h2=>h.2 g g' hg hg' hne a (key g hg _ h1) (key g' hg' _ h2)⟩
theorem Gl.mono {n:List Nat}{c c':Cx}(h:Gl n c) (k:c.le c'):Gl n c':=h.lw k.lw
theorem Gl.m {n:List Nat}{c c':Cx}(h:Gl n c) (k:c.le c':=by repeat (first|assumption|refine Cx.le.trans ?_ (by assumption))):Gl n c':=h.mono k
theorem Gl.le {n m:List Nat}{c:Cx}(h:Gl n c) (k:∀g∈m,g∈n):Gl m c:=⟨fun g hg=>h.1 g (k g hg),fun g g' hg hg'=>h.2 g g' (k g hg) (k g' hg')⟩
theorem Gl.get {n:List Nat}{c:Cx}(h:Gl n c) (g:Nat) (hg:g∈n):∃v,RE 352 80 c v (.sent g):=h.1 g hg
end Go.Proofs.YtkgjnbiiiifoaaaGreatDoor
namespace Go.Proofs.YtkgjnbiiiifoaaaGreatDoor
open Go Go.Lt
set_option maxRecDepth 10000
set_option linter.unusedVariables false
attribute [local irreducible] W WL AC
open Go.RowKit
structure Et (c:Cx):Prop where
 ml:∃m,Im c 10 0 (.int .i64 m)
 fz:Fz c 9
 tb:Lib.TabIs Tryz.prog c.w "internal/strconv.uint64pow10" .u64 Lib.pow10Tab
theorem wG:Tryz.prog.globalNamed "internal/strconv.uint64pow10" = some 9:=by kernel_rfl
theorem Fq {w w':World}(h:w'.heap[9]? = w.heap[9]?) (t:Lib.TabIs Tryz.prog w "internal/strconv.uint64pow10" .u64 Lib.pow10Tab):Lib.TabIs Tryz.prog w' "internal/strconv.uint64pow10" .u64 Lib.pow10Tab:=by
 unfold Lib.TabIs World.var? at t|-;rw [wG] at t|-;simp only [CY] at t|-;rw [h];exact t
theorem Et.mono {c c':Cx}(h:Et c) (k:c.le c'):Et c':=by
 obtain ⟨m,hm⟩:=h.ml;exact ⟨⟨m,hm.mono k⟩,h.fz.mono k,Fq (k.block _ h.fz.lt h.fz.nA) h.tb⟩
theorem Et.m {c c':Cx}(h:Et c) (k:c.le c':=by repeat (first|assumption|refine Cx.le.trans ?_ (by assumption))):Et c':=h.mono k
section
variable {P:Program}{c0:Cx}{G:Gm}{F:List En}
theorem oN (O0:Own c0 G F){f:FuncId}{args:Array Value}{v:Value}(h:Calls P f args c0.w fun e w'=>e= .returned v/\RowKit.Below c0.w.heap.size c0.w w'):
  Calls P f args c0.w (aI c0 fun c v'=>Own c G F/\v'=v):=by
 refine h.mono ?_;rintro e w' ⟨rfl,hb⟩;obtain ⟨c',rfl,h2,h3,_⟩:=Own.below O0 hb;exact ⟨_,c',rfl,rfl,h2,h3,rfl⟩
theorem ww (w:World) (e:TypeId) (s:ByteArray):RowKit.Below w.heap.size w (Lib.bytesWorld w e s):=by
 unfold Lib.bytesWorld;refine RowKit.Below.trans (b:=w.drew.alloc (.cells (Lib.bytesCells w e s) e)) ((mF w.heap.size w).drew.alloc (av _) _) ?_;refine ⟨rfl,rfl,rfl,?_,fun k hk=>?_⟩
 ·simp [World.freeze]
 ·simp [World.freeze,xd,Nat.ne_of_gt hk]
end
def mkS (l:List UInt8):ByteArray:=⟨l.toArray⟩
def blS (s:ByteArray):List UInt8:=s.data.toList
def uZ:Go.Shelf.Ren:=⟨fun|0=>0|1=>1|2=>2|99=>158|119=>321|120=>315|129=>231|137=>107|138=>223|143=>224|146=>108|151=>299|152=>314|156=>75|160=>226|165=>122|166=>34|169=>39|171=>36|172=>228|173=>77|174=>227|195=>263|197=>264|205=>319|206=>225|217=>156|218=>265|219=>266|221=>157|224=>296|225=>295|227=>269|228=>298|231=>267|232=>268|233=>270|234=>271|235=>272|236=>273|240=>74|241=>164|243=>76|244=>276|245=>275|246=>123|247=>274|260=>294|266=>221|267=>297|268=>222|271=>300|276=>121|277=>229|279=>302|280=>303|281=>304|282=>305|283=>165|284=>166|285=>167|286=>168|287=>301|314=>313|316=>318|317=>230|318=>232|319=>233|320=>234|321=>316|322=>317|337=>277|338=>278|347=>322|348=>323|349=>324|350=>325|351=>326|352=>327|353=>328|354=>329|355=>330|356=>331|357=>332|358=>333|359=>334|360=>337|361=>338|362=>341|363=>361|364=>358|365=>359|366=>345|367=>381|n=>n,fun|0=>0|1=>1|2=>2|3=>3|4=>4|5=>5|6=>6|7=>7|8=>8|9=>9|10=>10|11=>11|12=>12|13=>13|14=>14|15=>15|16=>16|17=>17|18=>18|19=>19|20=>20|21=>21|22=>227|23=>273|27=>272|28=>97|31=>93|37=>48|39=>209|40=>104|41=>325|43=>218|46=>151|47=>281|48=>251|49=>373|51=>279|52=>313|53=>53|54=>233|55=>177|61=>178|63=>326|64=>345|67=>147|69=>347|70=>86|71=>87|72=>88|73=>202|74=>38|75=>39|76=>89|77=>90|80=>96|81=>74|83=>92|84=>148|85=>274|86=>275|103=>302|104=>180|105=>303|106=>304|108=>350|111=>172|112=>335|113=>226|114=>157|115=>306|116=>307|117=>308|118=>309|119=>339|122=>305|123=>310|124=>311|127=>149|128=>312|131=>230|137=>340|138=>341|139=>342|143=>352|144=>353|145=>354|146=>343|150=>271|151=>344|164=>132|165=>201|166=>276|167=>327|168=>330|169=>331|170=>332|171=>232|172=>234|173=>235|174=>236|175=>328|176=>329|179=>98|209=>348|210=>349|211=>277|212=>278|213=>280|214=>346|222=>185|232=>333|233=>334|238=>355|239=>356|240=>357|241=>358|242=>359|243=>361|244=>140|245=>362|246=>363|247=>364|248=>365|249=>366|n=>n,fun|1=>10|3=>13|4=>14|15=>15|16=>16|17=>9|18=>11|19=>12|n=>n⟩
theorem yF:Lays.n137 Tryz.prog uZ:=by
 constructor <;> first|kernel_rfl|(intro w; kernel_rfl)|(constructor <;> first|kernel_rfl|(intro w; kernel_rfl))
def tS:Go.Shelf.Ren:=⟨fun|0=>0|1=>1|2=>2|99=>158|119=>321|120=>315|129=>231|137=>107|138=>223|143=>224|146=>108|151=>299|152=>314|156=>75|160=>226|165=>122|166=>34|169=>39|171=>36|172=>228|173=>77|174=>227|195=>263|197=>264|205=>319|206=>225|217=>156|218=>265|219=>266|221=>157|224=>296|225=>295|227=>269|228=>298|231=>267|232=>268|233=>270|234=>271|235=>272|236=>273|240=>74|241=>164|243=>76|244=>276|245=>275|246=>123|247=>274|260=>294|266=>221|267=>297|268=>222|271=>300|276=>121|277=>229|279=>302|280=>303|281=>304|282=>305|283=>165|284=>166|285=>167|286=>168|287=>301|314=>313|316=>318|317=>230|318=>232|319=>233|320=>234|321=>316|322=>317|337=>277|338=>278|347=>322|348=>323|349=>324|350=>325|351=>326|352=>327|353=>328|354=>329|355=>330|356=>331|357=>332|358=>333|359=>334|360=>337|361=>338|362=>341|363=>361|364=>358|365=>359|366=>345|367=>381|n=>n,fun|0=>0|1=>1|2=>2|3=>3|4=>4|5=>5|6=>6|7=>7|8=>8|9=>9|10=>10|11=>11|12=>12|13=>13|14=>14|15=>15|16=>16|17=>17|18=>18|19=>19|20=>20|21=>21|22=>227|23=>273|27=>272|28=>97|31=>93|37=>48|39=>209|40=>104|41=>325|43=>218|46=>151|47=>281|48=>251|49=>373|51=>279|52=>313|53=>53|54=>233|55=>177|61=>178|63=>326|64=>345|67=>147|69=>347|70=>86|71=>87|72=>88|73=>202|74=>38|75=>39|76=>89|77=>90|80=>96|81=>74|83=>92|84=>148|85=>274|86=>275|103=>302|104=>180|105=>303|106=>304|108=>350|111=>172|112=>335|113=>226|114=>157|115=>306|116=>307|117=>308|118=>309|119=>339|122=>305|123=>310|124=>311|127=>149|128=>312|131=>230|137=>340|138=>341|139=>342|143=>352|144=>353|145=>354|146=>343|150=>271|151=>344|164=>132|165=>201|166=>276|167=>327|168=>330|169=>331|170=>332|171=>232|172=>234|173=>235|174=>236|175=>328|176=>329|179=>98|209=>348|210=>349|211=>277|212=>278|213=>280|214=>346|222=>185|232=>333|233=>334|238=>355|239=>356|240=>357|241=>358|242=>359|243=>361|244=>140|245=>362|246=>363|247=>364|248=>365|249=>366|n=>n,fun|1=>10|3=>13|4=>14|15=>15|16=>16|17=>9|18=>11|19=>12|n=>n⟩
theorem Ex:Lays.n146 Tryz.prog tS:=by
 constructor <;> first|kernel_rfl|(intro w; kernel_rfl)|(constructor <;> first|kernel_rfl|(intro w; kernel_rfl))
def Af:Go.Shelf.Ren:=⟨fun|0=>0|1=>1|2=>2|99=>158|119=>321|120=>315|129=>231|137=>107|138=>223|143=>224|146=>108|151=>299|152=>314|156=>75|160=>226|165=>122|166=>34|169=>39|171=>36|172=>228|173=>77|174=>227|195=>263|197=>264|205=>319|206=>225|217=>156|218=>265|219=>266|221=>157|224=>296|225=>295|227=>269|228=>298|231=>267|232=>268|233=>270|234=>271|235=>272|236=>273|240=>74|241=>164|243=>76|244=>276|245=>275|246=>123|247=>274|260=>294|266=>221|267=>297|268=>222|271=>300|276=>121|277=>229|279=>302|280=>303|281=>304|282=>305|283=>165|284=>166|285=>167|286=>168|287=>301|314=>313|316=>318|317=>230|318=>232|319=>233|320=>234|321=>316|322=>317|337=>277|338=>278|347=>322|348=>323|349=>324|350=>325|351=>326|352=>327|353=>328|354=>329|355=>330|356=>331|357=>332|358=>333|359=>334|360=>337|361=>338|362=>341|363=>361|364=>358|365=>359|366=>345|367=>381|n=>n,fun|0=>0|1=>1|2=>2|3=>3|4=>4|5=>5|6=>6|7=>7|8=>8|9=>9|10=>10|11=>11|12=>12|13=>13|14=>14|15=>15|16=>16|17=>17|18=>18|19=>19|20=>20|21=>21|22=>227|23=>273|27=>272|28=>97|31=>93|37=>48|39=>209|40=>104|41=>325|43=>218|46=>151|47=>281|48=>251|49=>373|51=>279|52=>313|53=>53|54=>233|55=>177|61=>178|63=>326|64=>345|67=>147|69=>347|70=>86|71=>87|72=>88|73=>202|74=>38|75=>39|76=>89|77=>90|80=>96|81=>74|83=>92|84=>148|85=>274|86=>275|103=>302|104=>180|105=>303|106=>304|108=>350|111=>172|112=>335|113=>226|114=>157|115=>306|116=>307|117=>308|118=>309|119=>339|122=>305|123=>310|124=>311|127=>149|128=>312|131=>230|137=>340|138=>341|139=>342|143=>352|144=>353|145=>354|146=>343|150=>271|151=>344|164=>132|165=>201|166=>276|167=>327|168=>330|169=>331|170=>332|171=>232|172=>234|173=>235|174=>236|175=>328|176=>329|179=>98|209=>348|210=>349|211=>277|212=>278|213=>280|214=>346|222=>185|232=>333|233=>334|238=>355|239=>356|240=>357|241=>358|242=>359|243=>361|244=>140|245=>362|246=>363|247=>364|248=>365|249=>366|n=>n,fun|1=>10|3=>13|4=>14|15=>15|16=>16|17=>9|18=>11|19=>12|n=>n⟩
theorem Gg:Lays.n160 Tryz.prog Af:=by
 constructor <;> first|kernel_rfl|(intro w; kernel_rfl)|(constructor <;> first|kernel_rfl|(intro w; kernel_rfl))
def Ag:Go.Shelf.Ren:=⟨fun|0=>0|1=>1|2=>2|99=>158|119=>321|120=>315|129=>231|137=>107|138=>223|143=>224|146=>108|151=>299|152=>314|156=>75|160=>226|165=>122|166=>34|169=>39|171=>36|172=>228|173=>77|174=>227|195=>263|197=>264|205=>319|206=>225|217=>156|218=>265|219=>266|221=>157|224=>296|225=>295|227=>269|228=>298|231=>267|232=>268|233=>270|234=>271|235=>272|236=>273|240=>74|241=>164|243=>76|244=>276|245=>275|246=>123|247=>274|260=>294|266=>221|267=>297|268=>222|271=>300|276=>121|277=>229|279=>302|280=>303|281=>304|282=>305|283=>165|284=>166|285=>167|286=>168|287=>301|314=>313|316=>318|317=>230|318=>232|319=>233|320=>234|321=>316|322=>317|337=>277|338=>278|347=>322|348=>323|349=>324|350=>325|351=>326|352=>327|353=>328|354=>329|355=>330|356=>331|357=>332|358=>333|359=>334|360=>337|361=>338|362=>341|363=>361|364=>358|365=>359|366=>345|367=>381|n=>n,fun|0=>0|1=>1|2=>2|3=>3|4=>4|5=>5|6=>6|7=>7|8=>8|9=>9|10=>10|11=>11|12=>12|13=>13|14=>14|15=>15|16=>16|17=>17|18=>18|19=>19|20=>20|21=>21|22=>227|23=>273|27=>272|28=>97|31=>93|37=>48|39=>209|40=>104|41=>325|43=>218|46=>151|47=>281|48=>251|49=>373|51=>279|52=>313|53=>53|54=>233|55=>177|61=>178|63=>326|64=>345|67=>147|69=>347|70=>86|71=>87|72=>88|73=>202|74=>38|75=>39|76=>89|77=>90|80=>96|81=>74|83=>92|84=>148|85=>274|86=>275|103=>302|104=>180|105=>303|106=>304|108=>350|111=>172|112=>335|113=>226|114=>157|115=>306|116=>307|117=>308|118=>309|119=>339|122=>305|123=>310|124=>311|127=>149|128=>312|131=>230|137=>340|138=>341|139=>342|143=>352|144=>353|145=>354|146=>343|150=>271|151=>344|164=>132|165=>201|166=>276|167=>327|168=>330|169=>331|170=>332|171=>232|172=>234|173=>235|174=>236|175=>328|176=>329|179=>98|209=>348|210=>349|211=>277|212=>278|213=>280|214=>346|222=>185|232=>333|233=>334|238=>355|239=>356|240=>357|241=>358|242=>359|243=>361|244=>140|245=>362|246=>363|247=>364|248=>365|249=>366|n=>n,fun|1=>10|3=>13|4=>14|15=>15|16=>16|17=>9|18=>11|19=>12|n=>n⟩
theorem Gh:LaysM.n171 Tryz.prog Ag:=by
 constructor <;> first|kernel_rfl|(intro w; kernel_rfl)|(constructor <;> first|kernel_rfl|(intro w; kernel_rfl))
def Ah:Go.Shelf.Ren:=⟨fun|0=>0|1=>1|2=>2|99=>158|119=>321|120=>315|129=>231|137=>107|138=>223|143=>224|146=>108|151=>299|152=>314|156=>75|160=>226|165=>122|166=>34|169=>39|171=>36|172=>228|173=>77|174=>227|195=>263|197=>264|205=>319|206=>225|217=>156|218=>265|219=>266|221=>157|224=>296|225=>295|227=>269|228=>298|231=>267|232=>268|233=>270|234=>271|235=>272|236=>273|240=>74|241=>164|243=>76|244=>276|245=>275|246=>123|247=>274|260=>294|266=>221|267=>297|268=>222|271=>300|276=>121|277=>229|279=>302|280=>303|281=>304|282=>305|283=>165|284=>166|285=>167|286=>168|287=>301|314=>313|316=>318|317=>230|318=>232|319=>233|320=>234|321=>316|322=>317|337=>277|338=>278|347=>322|348=>323|349=>324|350=>325|351=>326|352=>327|353=>328|354=>329|355=>330|356=>331|357=>332|358=>333|359=>334|360=>337|361=>338|362=>341|363=>361|364=>358|365=>359|366=>345|367=>381|n=>n,fun|0=>0|1=>1|2=>2|3=>3|4=>4|5=>5|6=>6|7=>7|8=>8|9=>9|10=>10|11=>11|12=>12|13=>13|14=>14|15=>15|16=>16|17=>17|18=>18|19=>19|20=>20|21=>21|22=>227|23=>273|27=>272|28=>97|31=>93|37=>48|39=>209|40=>104|41=>325|43=>218|46=>151|47=>281|48=>251|49=>373|51=>279|52=>313|53=>53|54=>233|55=>177|61=>178|63=>326|64=>345|67=>147|69=>347|70=>86|71=>87|72=>88|73=>202|74=>38|75=>39|76=>89|77=>90|80=>96|81=>74|83=>92|84=>148|85=>274|86=>275|103=>302|104=>180|105=>303|106=>304|108=>350|111=>172|112=>335|113=>226|114=>157|115=>306|116=>307|117=>308|118=>309|119=>339|122=>305|123=>310|124=>311|127=>149|128=>312|131=>230|137=>340|138=>341|139=>342|143=>352|144=>353|145=>354|146=>343|150=>271|151=>344|164=>132|165=>201|166=>276|167=>327|168=>330|169=>331|170=>332|171=>232|172=>234|173=>235|174=>236|175=>328|176=>329|179=>98|209=>348|210=>349|211=>277|212=>278|213=>280|214=>346|222=>185|232=>333|233=>334|238=>355|239=>356|240=>357|241=>358|242=>359|243=>361|244=>140|245=>362|246=>363|247=>364|248=>365|249=>366|n=>n,fun|1=>10|3=>13|4=>14|15=>15|16=>16|17=>9|18=>11|19=>12|n=>n⟩
theorem Gj:Lays.n172 Tryz.prog Ah:=by
 constructor <;> first|kernel_rfl|(intro w; kernel_rfl)|(constructor <;> first|kernel_rfl|(intro w; kernel_rfl))
def uY:Go.Shelf.Ren:=⟨fun|0=>0|1=>1|2=>2|99=>158|119=>321|120=>315|129=>231|137=>107|138=>223|143=>224|146=>108|151=>299|152=>314|156=>75|160=>226|165=>122|166=>34|169=>39|171=>36|172=>228|173=>77|174=>227|195=>263|197=>264|205=>319|206=>225|217=>156|218=>265|219=>266|221=>157|224=>296|225=>295|227=>269|228=>298|231=>267|232=>268|233=>270|234=>271|235=>272|236=>273|240=>74|241=>164|243=>76|244=>276|245=>275|246=>123|247=>274|260=>294|266=>221|267=>297|268=>222|271=>300|276=>121|277=>229|279=>302|280=>303|281=>304|282=>305|283=>165|284=>166|285=>167|286=>168|287=>301|314=>313|316=>318|317=>230|318=>232|319=>233|320=>234|321=>316|322=>317|337=>277|338=>278|347=>322|348=>323|349=>324|350=>325|351=>326|352=>327|353=>328|354=>329|355=>330|356=>331|357=>332|358=>333|359=>334|360=>337|361=>338|362=>341|363=>361|364=>358|365=>359|366=>345|367=>381|n=>n,fun|0=>0|1=>1|2=>2|3=>3|4=>4|5=>5|6=>6|7=>7|8=>8|9=>9|10=>10|11=>11|12=>12|13=>13|14=>14|15=>15|16=>16|17=>17|18=>18|19=>19|20=>20|21=>21|22=>227|23=>273|27=>272|28=>97|31=>93|37=>48|39=>209|40=>104|41=>325|43=>218|46=>151|47=>281|48=>251|49=>373|51=>279|52=>313|53=>53|54=>233|55=>177|61=>178|63=>326|64=>345|67=>147|69=>347|70=>86|71=>87|72=>88|73=>202|74=>38|75=>39|76=>89|77=>90|80=>96|81=>74|83=>92|84=>148|85=>274|86=>275|103=>302|104=>180|105=>303|106=>304|108=>350|111=>172|112=>335|113=>226|114=>157|115=>306|116=>307|117=>308|118=>309|119=>339|122=>305|123=>310|124=>311|127=>149|128=>312|131=>230|137=>340|138=>341|139=>342|143=>352|144=>353|145=>354|146=>343|150=>271|151=>344|164=>132|165=>201|166=>276|167=>327|168=>330|169=>331|170=>332|171=>232|172=>234|173=>235|174=>236|175=>328|176=>329|179=>98|209=>348|210=>349|211=>277|212=>278|213=>280|214=>346|222=>185|232=>333|233=>334|238=>355|239=>356|240=>357|241=>358|242=>359|243=>361|244=>140|245=>362|246=>363|247=>364|248=>365|249=>366|n=>n,fun|1=>10|3=>13|4=>14|15=>15|16=>16|17=>9|18=>11|19=>12|n=>n⟩
theorem Bq:Lays.n156 Tryz.prog uY:=by
 constructor <;> first|kernel_rfl|(intro w; kernel_rfl)|(constructor <;> first|kernel_rfl|(intro w; kernel_rfl))
theorem xN:Go.Proofs.Builder.Extra Tryz.prog uY:=by
 constructor <;> first|kernel_rfl|(intro w; kernel_rfl)|decide|(constructor <;> kernel_rfl)
def oC (p0:ByteArray) (p1:Int):Option Int:=some (Lib.indexByte (blS p0) p1.toNat.toUInt8)
def oS (p0 p1:ByteArray):Option ByteArray:=if p0.size<=9223372036854775807/\p1.size<4294967281/\(blS p1).all (fun b=>decide (b.toNat<128))=true then some (mkS (Lib.trimS (blS p0) (blS p1))) else none
def oz (p0 p1:ByteArray):Option (List ByteArray):=if p0.size<4294967281/\1<=p1.size then some (Lib.splitB p1 0 (Lib.countB p0 p1) p0) else none
def jJ (p0:Int):Option ByteArray:=if -9223372036854775808<=p0/\p0<=9223372036854775807 then some (mkS (Lib.itoa p0)) else none
def oU (p0:ByteArray):Option (Int×Er):=if p0.size<=18 then (Lib.atoi (blS p0)).map fun n=>(n,Er.nil) else none
def oT (p0:List ByteArray) (p1:ByteArray):Option ByteArray:=if p0.length<=140737488355328/\(Lib.join (p0.map blS) (blS p1)).length<=140737488355328 then some (mkS (Lib.join (p0.map blS) (blS p1))) else none
section
variable {c0:Cx}{G:Gm}{F:List En}
abbrev C6:= @Tryz.underlying120
abbrev nG:= @Tryz.underlying122
abbrev kN:= @Tryz.underlying160
abbrev C5:= @Tryz.underlying185
abbrev zf:= @Tryz.underlying196
abbrev nB:= @Tryz.underlying21
abbrev wQ:= @Tryz.underlying24
abbrev ze:= @Tryz.underlying243
abbrev zd:= @Tryz.underlying245
abbrev gb:= @Tryz.underlying27
abbrev iX:= @Tryz.underlying283
abbrev wD:= @Tryz.underlying287
abbrev u_3:= @Tryz.underlying3
abbrev tB:= @Tryz.underlying39
abbrev u_4:= @Tryz.underlying4
abbrev vN:= @Tryz.underlying48
abbrev cw:= @Tryz.underlying54
abbrev cD:= @Tryz.underlying59
abbrev AX:= @Tryz.underlying62
abbrev Hw:= @Tryz.underlying64
abbrev jT:= @Tryz.underlying71
abbrev AW:= @Tryz.underlying76
abbrev u_9:= @Tryz.underlying9
abbrev ki:= @Tryz.underlying93
abbrev vM:= @Tryz.underlying97
theorem tD (O0:Own c0 G F) (p0:ByteArray) (p1:Int){r:Int}(H:oC p0 p1=some r):
  Calls Tryz.prog 107 #[.string p0,.int .u8 p1] c0.w (aI c0 fun c v=>Own c G F/\v= .int .i64 r):=by
 cases H
 refine oN O0 ((Go.Proofs.Any.strings_IndexByte yF p0 p1 c0.w).mono ?_)
 rintro e w' ⟨rfl,rfl⟩
 exact ⟨rfl,mF _ _⟩
theorem sG (O0:Own c0 G F) (hT:Et c0) (p0 p1:ByteArray){r:ByteArray}(H:oS p0 p1=some r):
  Calls Tryz.prog 226 #[.string p0,.string p1] c0.w (aI c0 fun c v=>Own c G F/\v= .string r):=by
 unfold oS at H
 split at H
 ·rename_i h
  cases H
  exact oN O0 (Go.Proofs.Any.strings_Trim_laid Gg (by kernel_rfl) p0 p1 c0.w h.1 h.2.1 (Go.Proofs.ascii_of_all h.2.2))
 ·cases H
theorem wU (O0:Own c0 G F) (hT:Et c0) (p0 p1:ByteArray){r:List ByteArray}(H:oz p0 p1=some r):
  Calls Tryz.prog 108 #[.string p0,.string p1] c0.w (aI c0 fun c v=>∃y1:Value,Own c G F/\v=y1/\Sl RS c y1 r):=by
 unfold oz at H
 split at H
 ·rename_i h
  cases H
  obtain ⟨m,hm⟩:=hT.ml
  have hlen:=Lib.splitB_all p1 h.2 0 _ p0 rfl
  have hle:=Lib.countB_le p1 h.2 p0.size p0 (av _)
  refine (Go.Proofs.Any.strings_Split Ex (by kernel_rfl) p0 p1 m c0.w h.1 hm.cell h.2).mono ?_
  rintro e w' ⟨rfl,rfl⟩
  obtain ⟨c',e1,e2,e3,e4⟩:=Own.below O0 ((mF _ c0.w).alloc (av _) (.cells ((Lib.splitB p1 0 (Lib.countB p0 p1) p0).map Value.string).toArray (tS.t 9)))
  refine ⟨_,c',rfl,e1.symm,e2,_,e3,rfl,_,_,by rw [hlen],by rw [hlen]; exact av _,by unfold maxLen; omega,fun i x hx=>⟨_,_,[.string x],rfl,rfl,fun j u hu=>?_⟩⟩
  cases j with
  | succ j=>simp at hu
  | zero=>
   simp only [lv,aK] at hu
   subst hu
   refine e4 _ _ _ (av _) ?_
   rw [iu _ _ _ _ _ _ (xY c0.w _),bL,bB]
   rw [show 0+i*RS.size+0=i by show 0+i*1+0=i; omega,hx]
   rfl
 ·cases H
theorem nh (O0:Own c0 G F) (hT:Et c0) (p0:Int){r:ByteArray}(H:jJ p0=some r):
  Calls Tryz.prog 36 #[.int .i64 p0] c0.w (aI c0 fun c v=>Own c G F/\v= .string r):=by
 unfold jJ at H
 split at H
 ·rename_i h
  cases H
  refine oN O0 ((Go.Proofs.Any.strconv_Itoa Gh p0 h.1 h.2 c0.w hT.tb).mono ?_)
  rintro e w' ⟨rfl,k,os,rfl⟩
  refine ⟨rfl,⟨rfl,rfl,rfl,?_,fun k hk=>?_⟩⟩
  ·simp
  ·simp [Go.Sort.grow,World.drewN,Array.getElem?_append,hk]
 ·cases H
theorem yh (O0:Own c0 G F) (hT:Et c0) (p0:ByteArray){r:Int×Er}(H:oU p0=some r): Calls Tryz.prog 228 #[.string p0] c0.w (aI c0 fun c v=>∃y1:Value,Own c G F/\v= .tuple #[.int .i64 r.1,y1]/\RE 352 80 c y1 r.2):=by
 unfold oU at H;split at H
 ·rename_i h;obtain ⟨n,hn,rfl⟩:=Option.map_eq_some_iff.1 H;refine (oN O0 (v:= .tuple #[.int .i64 n,.nilIface]) ((Go.Proofs.Any.strconv_Atoi Gj p0 n h hn c0.w).mono ?_)).mono ?_
  ·rintro e w' ⟨rfl,t,rfl⟩;exact ⟨rfl,ww _ _ _⟩
  ·rintro e w' ⟨v,c,h1,h2,h3,h4,h5⟩;exact ⟨v,c,h1,h2,h3,.nilIface,h4,h5,rfl⟩
 ·cases H
theorem yg (O0:Own c0 G F) (hT:Et c0){v1:Value}(p0:List ByteArray) (p1:ByteArray) (h1:Sl RS c0 v1 p0){r:ByteArray}(H:oT p0 p1=some r):
  Calls Tryz.prog 75 #[v1,.string p1] c0.w (aI c0 fun c v=>Own c G F/\v= .string r):=by
 unfold oT at H
 split at H
 ·rename_i h
  cases H
  obtain ⟨a,cap,rfl,g1,g2,g4⟩:=h1
  cases p0 with
  | nil=>
   refine oN O0 ((Go.Proofs.Any.strings_Join_none Bq xN a cap p1 c0.w).mono ?_)
   rintro e w' ⟨rfl,rfl⟩
   exact ⟨rfl,mF _ _⟩
  | cons x t=>
   obtain ⟨b,off,_,rfl,_,_⟩:=g4 0 x rfl
   refine oN O0 (Go.Proofs.Any.strings_Join Bq xN b off cap (x::t) p1 c0.w (fun i y hy=>?_) ?_ h.1 g1 h.2)
   ·obtain ⟨b',off',l,e,hl,hc⟩:=g4 i y hy
    cases e
    have:=(hc 0 _ (by rw [show l= [.string y] from hl]; rfl)).cell
    rwa [show off+i*RS.size+0=off+i by show off+i*1+0=off+i; omega] at this
   ·obtain ⟨b',off',l,e,hl,hc⟩:=g4 0 x rfl
    cases e
    exact (hc 0 _ (by rw [show l= [.string x] from hl]; rfl)).lt
 ·cases H
end
end Go.Proofs.YtkgjnbiiiifoaaaGreatDoor
namespace Go.Proofs.YtkgjnbiiiifoaaaGreatDoor
open Go Go.Lt
set_option maxRecDepth 10000
set_option linter.unusedVariables false
attribute [local irreducible] W WL AC
def ge (p0:List Int):Option (List Int):=app [] p0
theorem yi {c0:Cx}{G:Gm}{F:List En}{v1:Value}(O0:Own c0 G F) (p0:List Int) (h1:Sl (RI .i32) c0 v1 p0){r:List Int}(H:ge p0=some r):
  Calls Tryz.prog 155 #[v1] c0.w (aI c0 fun c v=>∃y1:Value,∃y2:List Value,Own c G (es true (RI .i32) y1 21 y2 r::F)/\v=y1/\OA (RI .i32) c y1 y2 r):=by
 unfold ge at H
 have hS:=h1
 obtain ⟨a,cap,rfl,h2,h3,h4⟩:=h1
 refine enter (l:=[.slice a p0.length cap]) Tryz.func155 rfl rfl rfl ?_
 refine W.seq ?_
 refine W.region ?_
 refine WL.val0 (v:= .slice none 0 0) rfl (by kernel_rfl) ?_
 refine WL.nil ?_
 refine nrm ?_
 cases a with
 | none=>
  obtain rfl:p0= []:=by
   cases p0 with
   | nil=>rfl
   | cons x t=>
    obtain ⟨b,off,l,e,_⟩:=h4 0 x rfl
    cases e
  obtain rfl:r= []:=by simpa [app] using H.symm
  refine W.seq ?_
  refine W.seq ?_
  refine W.region ?_
  refine WL.val0 (v:= .slice none 0 cap) rfl (by kernel_rfl) ?_
  refine WL.val0 (v:= .bool true) rfl (by kernel_rfl) ?_
  refine WL.nil ?_
  refine nrm ?_
  refine W.cond (t:=true) (by kernel_rfl) (fun _=>?_) (fun h=>by cases h)
  refine W.seq ?_
  refine W.region ?_
  refine WL.val0 (v:= .slice none 0 0) rfl (by kernel_rfl) ?_
  refine WL.nil ?_
  refine nrm ?_
  refine W.ret ?_
  refine thr ?_
  have O1:=O0.addHole (e:=es true (RI .i32) (.slice none 0 0) 21 [] ([]:List Int)) rfl
  exact FO (v:= .slice none 0 0) rfl (by kernel_rfl) ⟨_,c0,rfl,rfl,Cx.le.refl _,_,_,O1,rfl,OA.nil (ba _)⟩
 | some ad=>
  refine W.seq ?_
  refine W.seq ?_
  refine W.region ?_
  refine WL.val0 (v:= .slice (some ad) p0.length cap) rfl (by kernel_rfl) ?_
  refine WL.val0 (v:= .bool false) rfl (by kernel_rfl) ?_
  refine WL.nil ?_
  refine nrm ?_
  refine W.cond (t:=false) (by kernel_rfl) (fun h=>by cases h) (fun _=>?_)
  refine W.skip ?_
  refine nrm ?_
  refine W.seq ?_
  refine W.region ?_
  refine WL.mem rfl (Own.sl (R:=RI .i32) (E:=21) (ls:=[]) (vs:=[]) (xs:=([]:List Int)) true O0 (ba _) rfl trivial (by kernel_rfl) (by kernel_rfl)) ?_
  rintro v5 c1 l1 ⟨u1,O1,a1⟩
  refine WL.val0 (v:= .slice (some ad) p0.length cap) rfl (by kernel_rfl) ?_
  refine WL.mem rfl (Own.app (R:=RI .i32) (z:= .int .i32 0) (by_:=4) (ty:=59) 0 O1 rfl a1 (hS.mono l1) H Tryz.underlying59 (by kernel_rfl) rfl (by kernel_rfl) (by kernel_rfl)) ?_
  rintro v6 c2 l2 ⟨u2,O2,a2⟩
  refine WL.val0 (v:=v6) rfl (by kernel_rfl) ?_
  refine WL.nil ?_
  refine nrm ?_
  refine W.ret ?_
  exact FO (v:=v6) rfl (by kernel_rfl) ⟨_,c2,rfl,rfl,l1.trans l2,_,_,O2,rfl,a2⟩
def jo (p0:Int) (p1:Er):Option Er:=some (.fault p0 p1)
theorem oy {c0:Cx}{G:Gm}{F:List En}{v2:Value}(O0:Own c0 G F) (p0:Int) (p1:Er) (h1:RE 352 80 c0 v2 p1){r:Er}(H:jo p0 p1=some r): Calls Tryz.prog 25 #[.int .i64 p0,v2] c0.w (aI c0 fun c v=>∃y1:Value,Own c G F/\v=y1/\RE 352 80 c y1 r):=by
 obtain rfl:=aL H;refine enter (l:=[.int .i64 p0,v2]) Tryz.func25 rfl rfl rfl ?_;refine W.seq ?_;refine W.region ?_;refine WL.val0 (v:= .nilIface) rfl (by kernel_rfl) ?_;refine WL.nil ?_;refine nrm ?_;refine W.seq ?_;refine W.region ?_;refine WL.val0 (v:= .int .i64 p0) rfl (by kernel_rfl) ?_;refine WL.val0 (v:=v2) rfl (by kernel_rfl) ?_;refine WL.val0 (v:= .agg #[.int .i64 p0,v2]) rfl (by rcases h1.cs3 with rfl|⟨t,a,rfl⟩ <;> kernel_rfl) ?_;refine WL.mem rfl (Own.bx (T:=85) (vs:=[.int .i64 p0,v2]) O0 (by kernel_rfl)) ?_;rintro v5 c1 l1 ⟨b,rfl,O1,hm⟩;refine WL.val0 (v:= .iface 80 (.pointer (some ⟨b,0,none⟩))) rfl (by kernel_rfl) ?_;refine WL.val0 (v:= .iface 80 (.pointer (some ⟨b,0,none⟩))) rfl (by kernel_rfl) ?_;refine WL.nil ?_;refine nrm ?_;refine W.ret ?_;exact FO (v:= .iface 80 (.pointer (some ⟨b,0,none⟩))) rfl (by kernel_rfl) ⟨_,c1,rfl,rfl,l1,_,O1,rfl,_,_,rfl,hm 0 _ rfl,hm 1 _ rfl,h1.mono l1⟩
theorem wX {c0:Cx}{G:Gm}{F:List En}{e0:En}{b j n:Nat}{p0:List Int}(O0:Own c0 G (e0::F)) (hb:blk e0.v=some b) (hn:p0.length=n) (hv:∀m u,(p0.map (.int .i32))[m]? = some u->e0.vs[j+m]? = some u){r:List Int}(H:ge p0=some r):
  Calls Tryz.prog 155 #[.slice (some ⟨b,j,none⟩) n 16] c0.w (aI c0 fun c v=>∃y1:Value,∃y2:List Value,Own c G (es true (RI .i32) y1 21 y2 r::e0::F)/\v=y1/\OA (RI .i32) c y1 y2 r):=by
 unfold ge at H
 subst hn
 refine enter (l:=[.slice (some ⟨b,j,none⟩) p0.length 16]) Tryz.func155 rfl rfl rfl ?_
 refine W.seq ?_
 refine W.region ?_
 refine WL.val0 (v:= .slice none 0 0) rfl (by kernel_rfl) ?_
 refine WL.nil ?_
 refine nrm ?_
 refine W.seq ?_
 refine W.seq ?_
 refine W.region ?_
 refine WL.val0 (v:= .slice (some ⟨b,j,none⟩) p0.length 16) rfl (by kernel_rfl) ?_
 refine WL.val0 (v:= .bool false) rfl (by kernel_rfl) ?_
 refine WL.nil ?_
 refine nrm ?_
 refine W.cond (t:=false) (by kernel_rfl) (fun h=>by cases h) (fun _=>?_)
 refine W.skip ?_
 refine nrm ?_
 refine W.seq ?_
 refine W.region ?_
 refine WL.mem rfl (Own.sl (R:=RI .i32) (E:=21) (ls:=[]) (vs:=[]) (xs:=([]:List Int)) true O0 (ba _) rfl trivial (by kernel_rfl) (by kernel_rfl)) ?_
 rintro v5 c1 l1 ⟨u1,O1,a1⟩
 refine WL.val0 (v:= .slice (some ⟨b,j,none⟩) p0.length 16) rfl (by kernel_rfl) ?_
 have hon:=O1.on 1 rfl
 refine WL.mem rfl (Own.appSrc (R:=RI .i32) (nw:=p0.map (.int .i32)) (ua:=some ⟨b,j,none⟩) (ucap:=16) (z:= .int .i32 0) (by_:=4) (ty:=59) 0 O1 rfl a1 (by rw [dF]; exact (LI _).symm) (fun _=>⟨b,j,rfl,fun m u hu=>(hon.cell hb (j+m)).trans (hv m u hu)⟩) (fun w hw=>by
  obtain ⟨x,_,rfl⟩:=List.mem_map.1 hw
  rfl) (fun i x hx=>by
  show ((p0.map (Value.int .i32)).drop (i*1)).take 1= [.int .i32 x]
  have hlt:=(List.getElem?_eq_some_iff.1 hx).1
  have he:=(List.getElem?_eq_some_iff.1 hx).2
  rw [LI,tL (by rw [dF]; exact hlt),LU,iy,eo,he]) H Tryz.underlying59 (by kernel_rfl) rfl (by kernel_rfl) (by kernel_rfl)) ?_
 rintro v6 c2 l2 ⟨u2,O2,a2⟩
 refine WL.val0 (v:=v6) rfl (by kernel_rfl) ?_
 refine WL.nil ?_
 refine nrm ?_
 refine W.ret ?_
 exact FO (v:=v6) rfl (by kernel_rfl) ⟨_,c2,rfl,rfl,l1.trans l2,_,_,O2,rfl,a2⟩
end Go.Proofs.YtkgjnbiiiifoaaaGreatDoor
namespace Go.Proofs.YtkgjnbiiiifoaaaGreatDoor
open Go Go.Lt
set_option maxRecDepth 10000
set_option linter.unusedVariables false
attribute [local irreducible] W WL AC
open Tryz
abbrev RU (f:FuncId) (x:Array Value) (c:Cx) (X:Cx->Value->Prop):Prop:=Calls prog f x c.w (aI c X)
variable {c0:Cx}{G:Gm}{F:List En}{sg:Sto}{v1 v2 v3 v4 v5 v6 v7 v8 v9 v10 v11 v12 v13 v14 v15 v16 v17 v18 v19 v20 v21 v22 v23 v24 v25 v26 v27 v28 v29 v30 v31 v32 v33 v34 v35 v36 v37 v38 v39 v40 v41 v42 v43 v44 v45 v46 v47 v48 v49 v50 v51 v52 v53 v54 v55 v56 v57 v58 v59 v60:Value}
def dU (p0:Int):Option Bool:=
 (bw (decide (p0>=0)) (some (decide (p0<55296)))).bind fun b=>
 (orE b ((bw (decide (p0>57343)) (some (decide (p0<=1114111)))).bind fun a=>
 some a)).bind fun c=>
 some c
theorem lg (e:Own c0 G F) (a:Int){r:Bool}(H:dU a=some r): RU 85 #[J a] c0 fun c v=>Own c G F/\v=B r:=by
 unfold dU at H;refine en func85 rfl rfl<|Ru false<|Rx<|bn H fun z t H=>bn H fun s n H=>W.join (Jn c0 fun c l=>Own c G F/\l= [(2,B s)]) ?_ ?_
 ·clear H;refine Rv (J a)<|Rj (a>=0) ?_;rcases bo (decide (a>=0)) with f|f
  ·have x:=anT f t;refine vb f<|wa (J a)<|Rm (a<55296) ?_;cases x;refine Rj (a<55296) ?_;rcases bo (decide (a<55296)) with g|g
   ·obtain rfl:=orT g n;exact vb g<|pz<|pz<|pz<|Rk true<|Ry c0 ⟨e,rfl⟩
   have i:=orF g n;refine vb g<|wa (J a)<|Rm (a>57343)<|wn<|bn i fun m u i=>?_;rcases bo (decide (a>57343)) with h|h
   ·have y:=anT h u;refine vb h<|wa (J a)<|Rm (a<=1114111)<|wn ?_;cases y;refine Rj (a<=1114111) ?_;cases i;exact vv (B (decide (a<=1114111)))<|Ry c0 ⟨e,rfl⟩
   obtain rfl:=anF h u;refine vb h<|pz<|Rn false ?_;cases i;exact Rk false<|Ry c0 ⟨e,rfl⟩
  obtain rfl:=anF f t;refine vb f<|pz<|Ri false ?_;have j:false=false:=rfl;have d:=orF j n;refine vb j<|wa (J a)<|Rm (a>57343)<|wn<|bn d fun m k d=>?_;rcases bo (decide (a>57343)) with b|b
  ·have o:=anT b k;refine vb b<|wa (J a)<|Rm (a<=1114111)<|wn ?_;cases o;refine Rj (a<=1114111) ?_;cases d;exact vv (B (decide (a<=1114111)))<|Ry c0 ⟨e,rfl⟩
  obtain rfl:=anF b k;refine vb b<|pz<|Rn false ?_;cases d;exact Rk false<|Ry c0 ⟨e,rfl⟩
 rintro E M ⟨q,A,_,rfl,D,rfl,p,rfl⟩;refine nrm<|W.ret ?_;cases H;exact Rz q ⟨p,rfl⟩
def dN (p0:Int):Option Bool:=
 (bw (decide (p0>=0)) (some (decide (p0<=1114111)))).bind fun b=>
 (bw b ((orE (decide (p0<55296)) (some (decide (p0>57343)))).bind fun a=>
 some a)).bind fun c=>
 some c
theorem rQ (g:Own c0 G F) (a:Int){r:Bool}(H:dN a=some r): RU 131 #[J a] c0 fun c v=>Own c G F/\v=B r:=by
 unfold dN at H;refine en func131 rfl rfl<|Ru false<|Rx<|bn H fun t n H=>bn H fun m i H=>W.join (Jn c0 fun c l=>Own c G F/\l= [(2,B m)]) ?_ ?_
 ·clear H;refine Rv (J a)<|Rj (a>=0) ?_;rcases bo (decide (a>=0)) with b|b
  ·have p:=anT b n;refine vb b<|wa (J a)<|Rm (a<=1114111) ?_;cases p;refine Rj (a<=1114111) ?_;rcases bo (decide (a<=1114111)) with d|d
   ·have f:=anT d i;refine vb d<|wa (J a)<|Rm (a<55296)<|wn<|bn f fun s o f=>?_;rcases bo (decide (a<55296)) with e|e
    ·obtain rfl:=orT e o;refine vb e<|pz<|Rn true ?_;cases f;exact Rk true<|Ry c0 ⟨g,rfl⟩
    have q:=orF e o;refine vb e<|wa (J a)<|Rm (a>57343)<|wn ?_;cases q;refine Rj (a>57343) ?_;cases f;exact vv (B (decide (a>57343)))<|Ry c0 ⟨g,rfl⟩
   obtain rfl:=anF d i;exact vb d<|pz<|pz<|pz<|Rk false<|Ry c0 ⟨g,rfl⟩
  obtain rfl:=anF b n;refine vb b<|pz<|Ri false ?_;have h:false=false:=rfl;obtain rfl:=anF h i;exact vb h<|pz<|pz<|pz<|Rk false<|Ry c0 ⟨g,rfl⟩
 rintro y z ⟨k,u,_,rfl,x,rfl,j,rfl⟩;refine nrm<|W.ret ?_;cases H;exact Rz k ⟨j,rfl⟩
def gt (p0:List Int) (p1:List Int):Option Bool:=
 if ((p0.length:Int) != (p1.length:Int))=true then
 some false
 else
 (cm (σ:=Int) (τ:=Bool ⊕ Unit) (((p0.length:Int)-0).toNat+1) (fun b=>
 if decide (b<(p0.length:Int)) then
 (idx p0 b).bind fun c=>
 (idx p1 b).bind fun d=>
 if (c != d)=true then
 some (.inr (.inl false))
 else
 some (.inl ((w64 (b+1))))
 else
 some (.inr (.inr ()))) 0).bind fun a=>
 match a with
 | .inl a=>
 some a
 | .inr a=>
 some true
theorem sV (A:Own c0 G F) (h:List Int) (u:List Int){r:Bool}(g:Sl (RI .i32) c0 v1 h) (s:Sl (RI .i32) c0 v3 u) (H:gt h u=some r): RU 105 #[v1,v3] c0 fun c v=>Own c G F/\v=B r:=by
 unfold gt at H;refine en func105 rfl rfl<|Ru false<|Rx<|RB v1<|vx (ln 3 cD g)<|va v3<|vx (ln 3 cD s)<|Ri ((h.length:Int) != (u.length:Int))<|RF H (fun h5 H=>?_) (fun h5 H=>?_)
 ·refine Ru false<|RD<|thr ?_;cases H;exact Rz c0 ⟨A,rfl⟩
 refine RG<|W.seq<|RA 0<|wln<|W.block<|bn H fun b h6 p=>lp h6 (fun a=>Jn c0 fun c l=>Own c G F/\l= [(0,v1),(1,v3),(5,I a)]) (fun t=>match t with|.inl x=>(fun f0 ex e w=>ex= .ret/\(Jn c0 fun c l=>Own c G F/\l= [(4,B f0)]) e w) x|.inr x=>(fun i0 ex e w=>ex= .exit 0/\(Jn c0 fun c l=>Own c G F/\l= []) e w) x) ?_ ?_ ?_
 ·clear p h6;intro a v0 R h0 H;revert R h0;rintro P w_ ⟨c8,g9,_,rfl,l8,rfl,i,rfl⟩;refine W.seq<|RA a<|va v1<|vx (ln 3 cD g.m)<|Rj (a<(h.length:Int))<|RF H (fun T H=>?_) (fun T H=>?_)
  ·refine RG<|RM<|W.seq<|rD [] (Kp G0 []) i ?_;intro d o j;have u0:Kp G0 [] d:=Kp.nil0;refine ta 0 v1<|ta 1 (I a)<|bn H fun y k H=>?_;obtain ⟨l0,U,d0⟩:=Sl.at (g.mono (l8.trans o)) (aP k);obtain rfl:=U;refine tx 2 (fun q f=>ix cD g.m k)<|tx 3 (fun q f=>l1 nB ((mm d0) 0 _ rfl))<|ta 4 v3<|ta 5 (I a)<|bn H fun z n H=>?_;obtain ⟨m0,X,e0⟩:=Sl.at (s.mono (l8.trans o)) (aP n);obtain rfl:=X;refine tx 6 (fun q f=>ix cD s.m n)<|tx 7 (fun q f=>l1 nB ((mm e0) 0 _ rfl))<|ta 8 (B (y != z))<|dn (nrm<|cn H (fun Z H=>?_) (fun Z H=>?_))
   ·refine Ru false<|RD<|RK ?_;cases H;exact ⟨_,rfl,⟨rfl,jn d ⟨j,rfl⟩⟩⟩
   refine W.skip<|RH<|RC a<|Rq (a+1)<|WL.nil ?_;cases H;exact ⟨_,rfl,jn d ⟨j,rfl⟩⟩
  refine W.exit<|thx ?_;cases H;exact ⟨_,rfl,rfl,jn c8 ⟨i,rfl⟩⟩
 ·exact jn c0 ⟨A,rfl⟩
 rcases b with b|b
 ·intro S; revert S;rintro _ P w_ ⟨rfl,M,o0,_,rfl,s0,rfl,D,rfl⟩;refine RK ?_;cases p;exact Rz M ⟨D,rfl⟩
 rintro _ P w_ ⟨rfl,N,q0,_,rfl,t0,rfl,E,rfl⟩;refine RJ<|Ru true<|RD ?_;cases p;exact Rz N ⟨E,rfl⟩
def eD (p0:aa):Option Bool:=
 (orE (p0.Kind==0) (some (p0.Kind==3))).bind fun h=>
 if h then
 some ((p0.Text.length:Int)==0)
 else
 (bw (p0.Kind != 1) (some (p0.Kind != 2))).bind fun c=>
 (orE c (some (decide ((p0.Text.length:Int)<1)))).bind fun d=>
 (orE d (some (decide ((p0.Text.length:Int)>16)))).bind fun e=>
 if e then
 some false
 else
 (cm (σ:=Int) (τ:=Bool ⊕ Unit) (((p0.Text.length:Int)-0).toNat+1) (fun b=>
 if decide (b<(p0.Text.length:Int)) then
 (idx p0.Text b).bind fun f=>
 (dN f).bind fun g=>
 if (!g)=true then
 some (.inr (.inl false))
 else
 some (.inl ((w64 (b+1))))
 else
 some (.inr (.inr ()))) 0).bind fun a=>
 match a with
 | .inl a=>
 some a
 | .inr a=>
 some true
theorem rn (O0:Own c0 G F) (a:aa){r:Bool}(i:Sl (RI .i32) c0 v1 a.Text) (H:eD a=some r): RU 88 #[.agg #[I a.Kind,v1]] c0 fun c v=>Own c G F/\v=B r:=by
 unfold eD at H;refine en func88 rfl rfl<|sr ?_;obtain ⟨a3,a4,a5,rfl⟩:=(i).form;refine me (bx 61 [I a.Kind,.slice a3 a4 a5] O0) ?_;rintro v10 Z l9 ⟨d,rfl,O7,g⟩;refine Ri false<|Rx<|W.seq<|bn H fun u0 P H=>W.join (Jn Z fun c l=>Own c G F/\l= [(1,Q d),(11,B u0)]) ?_ ?_
 ·clear H;refine Rv (Q d)<|vx (l1 u_3 (g 0 _ rfl))<|Ri (a.Kind==0) ?_;rcases bo (a.Kind==0) with k|k
  ·obtain rfl:=orT k P;exact vb k<|pz<|ps<|Ri true<|Ry Z ⟨O7,rfl⟩
  have f0:=orF k P;refine vb k<|wa (Q d)<|wn<|vx (l1 u_3 (g 0 _ rfl))<|Rn (a.Kind==3) ?_;cases f0;exact Ri (a.Kind==3)<|Ry Z ⟨O7,rfl⟩
 rintro z A ⟨f,w1,_,rfl,d1,rfl,h,rfl⟩;refine nrm<|cn H (fun x0 H=>?_) (fun x0 H=>?_)
 ·refine sr<|Rs d (0+1)<|vx (l1 cD ((mm g) 1 _ rfl))<|vx (ln 3 cD i.m)<|Rk ((a.Text.length:Int)==0)<|RD<|thr ?_;cases H;exact Rz f ⟨h,rfl⟩
 refine RG<|W.seq<|W.seq<|bn H fun q1 R H=>bn H fun s1 y H=>bn H fun a0 n H=>W.join (Jn f fun c l=>Own c G F/\l= [(1,Q d),(35,B a0)]) ?_ ?_
 ·clear H;refine Rv (Q d)<|vx (l1 u_3 ((mm g) 0 _ rfl))<|Ri (a.Kind != 1) ?_;rcases bo (a.Kind != 1) with o|o
  ·have g0:=anT o R;refine vb o<|wa (Q d)<|wn<|vx (l1 u_3 ((mm g) 0 _ rfl))<|Rn (a.Kind != 2) ?_;cases g0;refine Ri (a.Kind != 2) ?_;rcases bo (a.Kind != 2) with p|p
   ·obtain rfl:=orT p y;refine vb p<|pz<|pz<|Ri true ?_;have S:true=true:=rfl;obtain rfl:=orT S n;exact vb S<|pz<|pz<|Ri true<|Ry f ⟨h,rfl⟩
   have h0:=orF p y;refine vb p<|wa (Qo d (0+1))<|wn<|vx (l1 cD ((mm g) 1 _ rfl))<|wn<|vx (ln 3 cD i.m)<|Rm ((a.Text.length:Int)<1) ?_;cases h0;refine Rj ((a.Text.length:Int)<1) ?_;rcases bo (decide ((a.Text.length:Int)<1)) with q|q
   ·obtain rfl:=orT q n;exact vb q<|pz<|pz<|Ri true<|Ry f ⟨h,rfl⟩
   have i0:=orF q n;refine vb q<|wa (Qo d (0+1))<|wn<|vx (l1 cD ((mm g) 1 _ rfl))<|wn<|vx (ln 3 cD i.m)<|Rm ((a.Text.length:Int)>16) ?_;cases i0;exact Rj ((a.Text.length:Int)>16)<|Ry f ⟨h,rfl⟩
  obtain rfl:=anF o R;refine vb o<|pz<|ps<|Ri false ?_;have T:false=false:=rfl;have j0:=orF T y;refine vb T<|wa (Qo d (0+1))<|wn<|vx (l1 cD ((mm g) 1 _ rfl))<|wn<|vx (ln 3 cD i.m)<|Rm ((a.Text.length:Int)<1) ?_;cases j0;refine Rj ((a.Text.length:Int)<1) ?_;rcases bo (decide ((a.Text.length:Int)<1)) with s|s
  ·obtain rfl:=orT s n;exact vb s<|pz<|pz<|Ri true<|Ry f ⟨h,rfl⟩
  have k0:=orF s n;refine vb s<|wa (Qo d (0+1))<|wn<|vx (l1 cD ((mm g) 1 _ rfl))<|wn<|vx (ln 3 cD i.m)<|Rm ((a.Text.length:Int)>16) ?_;cases k0;exact Rj ((a.Text.length:Int)>16)<|Ry f ⟨h,rfl⟩
 rintro z A ⟨j,x1,_,rfl,e1,rfl,D,rfl⟩;refine nrm<|cn H (fun y0 H=>?_) (fun y0 H=>?_)
 ·refine Ru false<|RD<|thr ?_;cases H;exact Rz j ⟨D,rfl⟩
 refine RG<|W.seq<|RA 0<|wln<|W.block<|bn H fun u U x=>lp U (fun b=>Jn j fun c l=>Own c G F/\l= [(1,Q d),(3,I b)]) (fun t=>match t with|.inl x_=>(fun h1 ex e w=>ex= .ret/\(Jn j fun c l=>Own c G F/\l= [(2,B h1)]) e w) x_|.inr x_=>(fun j1 ex e w=>ex= .exit 0/\(Jn j fun c l=>Own c G F/\l= []) e w) x_) ?_ ?_ ?_
 ·clear x U;intro b g2 v0 i1 H;revert v0 i1;rintro z A ⟨q0,y1,_,rfl,f1,rfl,E,rfl⟩;refine W.seq<|RA b<|Rs d (0+1)<|vx (l1 cD ((mm g) 1 _ rfl))<|vx (ln 3 cD i.m)<|Rj (b<(a.Text.length:Int))<|RF H (fun z0 H=>?_) (fun z0 H=>?_)
  ·refine RG<|RM<|sr<|Rs d (0+1)<|vx (l1 cD ((mm g) 1 _ rfl))<|Ro b<|bn H fun d0 X H=>?_;obtain ⟨u1,a1,g1⟩:=Sl.at (i.mono (l9.trans (d1.trans (e1.trans f1)))) (aP X);obtain rfl:=a1;refine vx (ix cD i.m X)<|vx (l1 nB (g1 0 _ rfl))<|bn H fun e0 b1 H=>cl (rQ E d0 b1) ?_;rintro f2 N c2 ⟨M,rfl⟩;refine Ri (!e0)<|RF H (fun c1 H=>?_) (fun c1 H=>?_)
   ·refine Ru false<|RD<|RK ?_;cases H;exact ⟨_,rfl,⟨rfl,jn N ⟨M,rfl⟩⟩⟩
   refine W.skip<|RH<|RC b<|Rq (b+1)<|WL.nil ?_;cases H;exact ⟨_,rfl,jn N ⟨M,rfl⟩⟩
  refine W.exit<|thx ?_;cases H;exact ⟨_,rfl,rfl,jn q0 ⟨E,rfl⟩⟩
 ·exact jn j ⟨D,rfl⟩
 rcases u with u|u
 ·intro w0; revert w0;rintro _ z A ⟨rfl,s0,z1,_,rfl,d2,rfl,l0,rfl⟩;refine RK ?_;cases x;exact Rz s0 ⟨l0,rfl⟩
 rintro _ z A ⟨rfl,t0,b2,_,rfl,e2,rfl,o0,rfl⟩;refine RJ<|Ru true<|RD ?_;cases x;exact Rz t0 ⟨o0,rfl⟩
def dB (p0:List aa) (p1:Int):Option Int:=
 (orE (decide (p1<0)) (some (decide (p1>=(p0.length:Int))))).bind fun b=>
 if b then
 some 0
 else
 (idx p0 p1).bind fun a=>
 some a.Kind
theorem lj (h:Own c0 G F) (d:List aa) (a:Int){r:Int}(f:Sl aw c0 v1 d) (H:dB d a=some r): RU 89 #[v1,I a] c0 fun c v=>Own c G F/\v=I r:=by
 unfold dB at H;refine en func89 rfl rfl<|RA 0<|Rx<|W.seq<|bn H fun k p H=>W.join (Jn c0 fun c l=>Own c G F/\l= [(0,v1),(1,I a),(12,B k)]) ?_ ?_
 ·clear H;refine RC a<|Rj (a<0) ?_;rcases bo (decide (a<0)) with b|b
  ·obtain rfl:=orT b p;exact vb b<|pz<|pz<|Ri true<|Ry c0 ⟨h,rfl⟩
  have s:=orF b p;refine vb b<|wa (I a)<|wa v1<|wn<|vx (ln 3 cw f)<|Rm (a>=(d.length:Int)) ?_;cases s;exact Rj (a>=(d.length:Int))<|Ry c0 ⟨h,rfl⟩
 rintro y A ⟨j,z,_,rfl,t,rfl,i,rfl⟩;refine nrm<|cn H (fun n H=>?_) (fun n H=>?_)
 ·refine RA 0<|RD<|thr ?_;cases H;exact Rz j ⟨i,rfl⟩
 refine RG<|RB v1<|Ro a<|bn H fun g e H=>?_;obtain ⟨u,o,q⟩:=Sl.at (f.mono t) (aP e);obtain ⟨v17,rfl,x⟩:=o;refine vx (ix cw f.m e)<|Rs (sb v1) (so v1+a.toNat*2)<|vx (l1 u_3 (q 0 _ rfl))<|Ro g.Kind<|RD ?_;cases H;exact Rz j ⟨i,rfl⟩
def fI (p0:List aa):Option Bool:=
 (cm (σ:=Int) (τ:=Bool ⊕ Unit) (((p0.length:Int)-0).toNat+1) (fun a=>
 if decide (a<(p0.length:Int)) then
 (idx p0 a).bind fun g=>
 (eD g).bind fun h=>
 (orE (!h) ((idx p0 a).bind fun i=>
 (bw (i.Kind==2) ((dB p0 (w64 (a+1))).bind fun j=>
 some (j != 3))).bind fun d=>
 some d)).bind fun c=>
 (orE c ((idx p0 a).bind fun k=>
 (bw (k.Kind==3) ((dB p0 (w64 (a-1))).bind fun l=>
 some (l != 2))).bind fun f=>
 some f)).bind fun e=>
 if e then
 some (.inr (.inl false))
 else
 some (.inl ((w64 (a+1))))
 else
 some (.inr (.inr ()))) 0).bind fun b=>
 match b with
 | .inl b=>
 some b
 | .inr b=>
 some true
theorem rm (O0:Own c0 G F) (x:List aa){r:Bool}(d:Sl aw c0 v1 x) (H:fI x=some r): RU 47 #[v1] c0 fun c v=>Own c G F/\v=B r:=by
 unfold fI at H;refine en func47 rfl rfl<|Ru false<|Rx<|RA 0<|wln<|W.block<|bn H fun M h3 H4=>lp h3 (fun a=>Jn c0 fun c l=>Own c G F/\l= [(0,v1),(3,I a)]) (fun t=>match t with|.inl x_=>(fun c2 ex e w=>ex= .ret/\(Jn c0 fun c l=>Own c G F/\l= [(2,B c2)]) e w) x_|.inr x_=>(fun m2 ex e w=>ex= .exit 0/\(Jn c0 fun c l=>Own c G F/\l= []) e w) x_) ?_ ?_ ?_
 ·clear H4 h3;intro a c3 e1 d2 H;revert e1 d2;rintro e_ w_ ⟨c5,g6,_,rfl,R,rfl,O7,rfl⟩;refine W.seq<|RA a<|va v1<|vx (ln 3 cw d.m)<|Rj (a<(x.length:Int))<|RF H (fun g1 H=>?_) (fun g1 H=>?_)
  ·refine RG<|RM<|W.seq<|bn H fun t0 Z H=>bn H fun N h1 H=>bn H fun f2 a0 H=>bn H fun l0 u H=>W.join (Jn c5 fun c l=>Own c G F/\l= [(0,v1),(3,I a),(45,B l0)]) ?_ ?_
   ·clear H;refine Rv v1<|Ro a ?_;obtain ⟨i2,i1,x1⟩:=Sl.at (d.mono R) (aP Z);obtain ⟨v19,rfl,j1⟩:=i1;refine vx (ix cw d.m Z)<|vx (lN 61 x1)<|cl (rn O7 t0 j1 h1) ?_;rintro v26 T E ⟨s,rfl⟩;refine Ri (!N) ?_;rcases bo (!N) with k|k
    ·obtain rfl:=orT k a0;refine vb k<|pz<|pz<|pz<|pz<|pz<|pz<|ps<|Ri true ?_;have b0:true=true:=rfl;obtain rfl:=orT b0 u;exact vb b0<|pz<|pz<|pz<|pz<|pz<|pz<|ps<|Ri true<|Ry T ⟨s,rfl⟩
    have g:=orF k a0;refine vb k<|wa v1<|wa (I a)<|wn<|bn g fun P d0 g=>?_;obtain ⟨j2,m1,y1⟩:=Sl.at (d.mono (R.trans E)) (aP d0);obtain ⟨v34,rfl,q2⟩:=m1;refine vx (ix cw d.m d0)<|wa (Qo (sb v1) (so v1+a.toNat*2))<|wn<|vx (l1 u_3 (y1 0 _ rfl))<|Rn (P.Kind==2)<|wn<|bn g fun g2 e0 g=>?_;rcases bo (P.Kind==2) with n|n
    ·have y:=anT n e0;refine vb n<|wa v1<|wa (I a)<|wa (I (w64 (a+1)))<|wn<|bn y fun j n1 y=>cl (lj s x (w64 (a+1)) d.m n1) ?_;rintro v45 U w1 ⟨D,rfl⟩;refine Rn (j != 3)<|wn ?_;cases y;refine Ri (j != 3) ?_;cases g;refine Ri (j != 3) ?_;rcases bo (j != 3) with o|o
     ·obtain rfl:=orT o u;exact vb o<|pz<|pz<|pz<|pz<|pz<|pz<|ps<|Ri true<|Ry U ⟨D,rfl⟩
     have h:=orF o u;refine vb o<|wa v1<|wa (I a)<|wn<|bn h fun f f0 h=>?_;obtain ⟨k2,p1,z1⟩:=Sl.at (d.mono (R.trans (E.trans w1))) (aP f0);obtain ⟨v52,rfl,s2⟩:=p1;refine vx (ix cw d.m f0)<|wa (Qo (sb v1) (so v1+a.toNat*2))<|wn<|vx (l1 u_3 (z1 0 _ rfl))<|Rn (f.Kind==3)<|wn<|bn h fun m0 g0 h=>?_;rcases bo (f.Kind==3) with p|p
     ·have z:=anT p g0;refine vb p<|wa v1<|wa (I a)<|wa (I (w64 (a-1)))<|wn<|bn z fun b q1 z=>cl (lj D x (w64 (a-1)) d.m q1) ?_;rintro z2 a1 u2 ⟨u0,rfl⟩;refine Rn (b != 2)<|wn ?_;cases z;refine Ri (b != 2) ?_;cases h;exact Ri (b != 2)<|Ry a1 ⟨u0,rfl⟩
     obtain rfl:=anF p g0;refine vb p<|pz<|pz<|ps<|Rn false ?_;cases h;exact Ri false<|Ry U ⟨D,rfl⟩
    obtain rfl:=anF n e0;refine vb n<|pz<|pz<|ps<|Rn false ?_;cases g;refine Ri false ?_;have h0:false=false:=rfl;have i:=orF h0 u;refine vb h0<|wa v1<|wa (I a)<|wn<|bn i fun f i0 i=>?_;obtain ⟨l2,s1,b2⟩:=Sl.at (d.mono (R.trans E)) (aP i0);obtain ⟨a3,rfl,t2⟩:=s1;refine vx (ix cw d.m i0)<|wa (Qo (sb v1) (so v1+a.toNat*2))<|wn<|vx (l1 u_3 (b2 0 _ rfl))<|Rn (f.Kind==3)<|wn<|bn i fun m0 j0 i=>?_;rcases bo (f.Kind==3) with q|q
    ·have A:=anT q j0;refine vb q<|wa v1<|wa (I a)<|wa (I (w64 (a-1)))<|wn<|bn A fun b t1 A=>cl (lj s x (w64 (a-1)) d.m t1) ?_;rintro b3 b1 v2 ⟨w0,rfl⟩;refine Rn (b != 2)<|wn ?_;cases A;refine Ri (b != 2) ?_;cases i;exact Ri (b != 2)<|Ry b1 ⟨w0,rfl⟩
    obtain rfl:=anF q j0;refine vb q<|pz<|pz<|ps<|Rn false ?_;cases i;exact Ri false<|Ry T ⟨s,rfl⟩
   rintro e_ w_ ⟨X,n2,_,rfl,w2,rfl,S,rfl⟩;refine nrm<|cn H (fun u1 H=>?_) (fun u1 H=>?_)
   ·refine Ru false<|RD<|RK ?_;cases H;exact ⟨_,rfl,⟨rfl,jn X ⟨S,rfl⟩⟩⟩
   refine W.skip<|RH<|RC a<|Rq (a+1)<|WL.nil ?_;cases H;exact ⟨_,rfl,jn X ⟨S,rfl⟩⟩
  refine W.exit<|thx ?_;cases H;exact ⟨_,rfl,rfl,jn c5 ⟨O7,rfl⟩⟩
 ·exact jn c0 ⟨O0,rfl⟩
 rcases M with M|M
 ·intro f1; revert f1;rintro _ e_ w_ ⟨rfl,c1,o2,_,rfl,x2,rfl,x0,rfl⟩;refine RK ?_;cases H4;exact Rz c1 ⟨x0,rfl⟩
 rintro _ e_ w_ ⟨rfl,d1,p2,_,rfl,y2,rfl,y0,rfl⟩;refine RJ<|Ru true<|RD ?_;cases H4;exact Rz d1 ⟨y0,rfl⟩
def gq (p0:List aa) (p1:List aa):Option Bool:=
 if ((p0.length:Int) != (p1.length:Int))=true then
 some false
 else
 (cm (σ:=Int) (τ:=Bool ⊕ Unit) (((p0.length:Int)-0).toNat+1) (fun a=>
 if decide (a<(p0.length:Int)) then
 (idx p0 a).bind fun d=>
 (idx p1 a).bind fun e=>
 (orE (d.Kind != e.Kind) ((idx p0 a).bind fun f=>
 (idx p1 a).bind fun g=>
 (gt f.Text g.Text).bind fun h=>
 some (!h))).bind fun c=>
 if c then
 some (.inr (.inl false))
 else
 some (.inl ((w64 (a+1))))
 else
 some (.inr (.inr ()))) 0).bind fun b=>
 match b with
 | .inl b=>
 some b
 | .inr b=>
 some true
theorem sQ (O0:Own c0 G F) (s:List aa) (X:List aa){r:Bool}(j:Sl aw c0 v1 s) (k:Sl aw c0 v3 X) (H:gq s X=some r): RU 58 #[v1,v3] c0 fun c v=>Own c G F/\v=B r:=by
 unfold gq at H;refine en func58 rfl rfl<|Ru false<|Rx<|RB v1<|vx (ln 3 cw j)<|va v3<|vx (ln 3 cw k)<|Ri ((s.length:Int) != (X.length:Int))<|RF H (fun h5 H=>?_) (fun h5 H=>?_)
 ·refine Ru false<|RD<|thr ?_;cases H;exact Rz c0 ⟨O0,rfl⟩
 refine RG<|W.seq<|RA 0<|wln<|W.block<|bn H fun h h6 S=>lp h6 (fun a=>Jn c0 fun c l=>Own c G F/\l= [(0,v1),(1,v3),(5,I a)]) (fun t=>match t with|.inl x_=>(fun f1 ex e w=>ex= .ret/\(Jn c0 fun c l=>Own c G F/\l= [(4,B f1)]) e w) x_|.inr x_=>(fun h1 ex e w=>ex= .exit 0/\(Jn c0 fun c l=>Own c G F/\l= []) e w) x_) ?_ ?_ ?_
 ·clear S h6;intro a d2 l0 g1 H;revert l0 g1;rintro U Z ⟨c8,g9,_,rfl,q,rfl,u,rfl⟩;refine W.seq<|RA a<|va v1<|vx (ln 3 cw j.m)<|Rj (a<(s.length:Int))<|RF H (fun o0 H=>?_) (fun o0 H=>?_)
  ·refine RG<|RM<|W.seq<|bn H fun n E H=>bn H fun o M H=>bn H fun T N H=>W.join (Jn c8 fun c l=>Own c G F/\l= [(0,v1),(1,v3),(5,I a),(41,B T)]) ?_ ?_
   ·clear H;refine rD [] (Kp G0 []) u ?_;intro z i x;have c2:Kp G0 [] z:=Kp.nil0;refine ta 0 v1<|ta 1 (I a) ?_;obtain ⟨j1,q0,a1⟩:=Sl.at (j.mono (q.trans i)) (aP E);obtain ⟨v24,rfl,u1⟩:=q0;refine tx 2 (fun f b=>ix cw j.m E)<|ta 3 (Qo (sb v1) (so v1+a.toNat*2))<|tx 4 (fun f b=>l1 u_3 ((mm a1) 0 _ rfl))<|ta 5 v3<|ta 6 (I a) ?_;obtain ⟨k1,s0,b1⟩:=Sl.at (k.mono (q.trans i)) (aP M);obtain ⟨v29,rfl,w1⟩:=s0;refine tx 7 (fun f b=>ix cw k.m M)<|ta 8 (Qo (sb v3) (so v3+a.toNat*2))<|tx 9 (fun f b=>l1 u_3 ((mm b1) 0 _ rfl))<|ta 10 (B (n.Kind != o.Kind)) ?_;rcases bo (n.Kind != o.Kind) with g|g
    ·obtain rfl:=orT g N;exact AC.takeb 11 g rfl (by kernel_rfl) (by kernel_rfl) (fun f b=>(by kernel_rfl)) (tp 12<|tp 13<|tp 14<|tp 15<|tp 16<|tp 17<|tp 18<|tp 19<|tp 20<|tp 21<|tp 22<|tp 23<|ta 24 (B true)<|dn (nrm<|jn z ⟨x,rfl⟩))
    have d:=orF g N;refine bn d fun b0 P d=>bn d fun d0 R d=>bn d fun p t0 d=>AC.takeb 11 g rfl (by kernel_rfl) (by kernel_rfl) (fun f b=>(by kernel_rfl)) (ta 12 v1<|ta 13 (I a) ?_);obtain ⟨m1,u0,c1⟩:=Sl.at (j.mono (q.trans i)) (aP P);obtain ⟨v39,rfl,v0⟩:=u0;refine tx 14 (fun f b=>ix cw j.m P)<|ta 15 (Qo (sb v1) (so v1+a.toNat*2+1))<|tx 16 (fun f b=>l1 cD ((mm c1) 1 _ rfl))<|ta 17 v3<|ta 18 (I a) ?_;obtain ⟨n1,w0,d1⟩:=Sl.at (k.mono (q.trans i)) (aP R);obtain ⟨v44,rfl,x0⟩:=w0;refine tx 19 (fun f b=>ix cw k.m R)<|ta 20 (Qo (sb v3) (so v3+a.toNat*2+1))<|tx 21 (fun f b=>l1 cD ((mm d1) 1 _ rfl))<|o1 22 (gc 22 (sV x b0.Text d0.Text v0 x0 t0) ?_);rintro v51 A x1 ⟨f0,rfl⟩;have e1:Kp G0 [] A:=Kp.nil0;refine ⟨.inr e1,ta 23 (B (!p)) ?_⟩;cases d;exact ta 24 (B (!p))<|dn (nrm<|jn A ⟨f0,rfl⟩)
   rintro U Z ⟨D,q1,_,rfl,y1,rfl,y,rfl⟩;refine nrm<|cn H (fun y0 H=>?_) (fun y0 H=>?_)
   ·refine Ru false<|RD<|RK ?_;cases H;exact ⟨_,rfl,⟨rfl,jn D ⟨y,rfl⟩⟩⟩
   refine W.skip<|RH<|RC a<|Rq (a+1)<|WL.nil ?_;cases H;exact ⟨_,rfl,jn D ⟨y,rfl⟩⟩
  refine W.exit<|thx ?_;cases H;exact ⟨_,rfl,rfl,jn c8 ⟨u,rfl⟩⟩
 ·exact jn c0 ⟨O0,rfl⟩
 rcases h with h|h
 ·intro m0; revert m0;rintro _ U Z ⟨rfl,i0,s1,_,rfl,z1,rfl,g0,rfl⟩;refine RK ?_;cases S;exact Rz i0 ⟨g0,rfl⟩
 rintro _ U Z ⟨rfl,j0,t1,_,rfl,b2,rfl,h0,rfl⟩;refine RJ<|Ru true<|RD ?_;cases S;exact Rz j0 ⟨h0,rfl⟩
def jQ (p0:Int):Option Bool:=
 (dU p0).bind fun a=>
 some (!a)
theorem yw (d:Own c0 G F) (a:Int){r:Bool}(H:jQ a=some r): RU 163 #[J a] c0 fun c v=>Own c G F/\v=B r:=by
 unfold jQ at H;refine en func163 rfl rfl<|Ru false<|wln<|RB (J a)<|bn H fun b g H=>cl (lg d a g) ?_;rintro v7 f h ⟨e,rfl⟩;refine Rk (!b)<|RD ?_;cases H;exact Rz f ⟨e,rfl⟩
def cL (p0:List Int):Option Int:=
 (cm (σ:=Int) (τ:=Int ⊕ Unit) (((p0.length:Int)-0).toNat+1) (fun b=>
 if decide (b<(p0.length:Int)) then
 (idx p0 b).bind fun c=>
 (jQ c).bind fun d=>
 if d then
 some (.inr (.inl b))
 else
 some (.inl ((w64 (b+1))))
 else
 some (.inr (.inr ()))) 0).bind fun a=>
 match a with
 | .inl a=>
 some a
 | .inr a=>
 some (-1)
theorem ke (U:Own c0 G F) (d:List Int){r:Int}(j:Sl (RI .i32) c0 v1 d) (H:cL d=some r): RU 126 #[v1,.func (.func 163) #[] #[]] c0 fun c v=>Own c G F/\v=I r:=by
 unfold cL at H;refine en func126 rfl rfl<|RA 0<|Rx<|RB v1<|vx (ln 3 cD j)<|Ro 0<|wln<|W.block<|bn H fun b N i=>lp N (fun a=>Jn c0 fun c l=>Own c G F/\l= [(0,v1),(1,.func (.func 163) #[] #[]),(7,I (d.length:Int)),(8,I a)]) (fun t=>match t with|.inl k=>(fun R ex e w=>ex= .ret/\(Jn c0 fun c l=>Own c G F/\l= [(4,I R)]) e w) k|.inr k=>(fun b0 ex e w=>ex= .exit 0/\(Jn c0 fun c l=>Own c G F/\l= []) e w) k) ?_ ?_ ?_
 ·clear i N;intro a j0 y T H;revert y T;rintro x S ⟨X,g6,_,rfl,Z,rfl,q,rfl⟩;refine sr<|Rj (a<(d.length:Int))<|Rx<|cn H (fun A H=>?_) (fun A H=>?_)
  ·refine RG<|RM<|sr<|vv (I a)<|wln<|RB (.func (.func 163) #[] #[])<|va v1<|Ro a<|bn H fun n h H=>?_;obtain ⟨a0,D,P⟩:=Sl.at (j.mono Z) (aP h);obtain rfl:=D;refine vx (ix cD j.m h)<|vx (l1 nB (P 0 _ rfl))<|bn H fun d0 E H=>cl (yw q n E) ?_;rintro v22 g g0 ⟨f,rfl⟩;refine RF H (fun M H=>?_) (fun M H=>?_)
   ·refine sr<|vv (I a)<|RD<|RK ?_;cases H;exact ⟨_,rfl,⟨rfl,jn g ⟨f,rfl⟩⟩⟩
   refine W.skip<|RH<|W.region<|Rq (a+1)<|WL.nil ?_;cases H;exact ⟨_,rfl,jn g ⟨f,rfl⟩⟩
  refine W.exit<|thx ?_;cases H;exact ⟨_,rfl,rfl,jn X ⟨q,rfl⟩⟩
 ·exact jn c0 ⟨U,rfl⟩
 rcases b with b|b
 ·intro z; revert z;rintro _ x S ⟨rfl,s,e0,_,rfl,h0,rfl,o,rfl⟩;refine RK ?_;cases i;exact Rz s ⟨o,rfl⟩
 rintro _ x S ⟨rfl,u,f0,_,rfl,i0,rfl,p,rfl⟩;refine RJ<|RA (-1)<|RD ?_;cases i;exact Rz u ⟨p,rfl⟩
def bR (p0:List Int):Option Bool:=
 (cL p0).bind fun a=>
 some (decide (a>=0))
theorem jz (d:Own c0 G F) (b:List Int){r:Bool}(g:Sl (RI .i32) c0 v1 b) (H:bR b=some r): RU 82 #[v1,.func (.func 163) #[] #[]] c0 fun c v=>Own c G F/\v=B r:=by
 unfold bR at H;refine en func82 rfl rfl<|Ru false<|wln<|RB v1<|va (.func (.func 163) #[] #[])<|bn H fun a h H=>cl (ke d b g h) ?_;rintro v9 f i ⟨e,rfl⟩;refine vv (B (decide (a>=0)))<|RD ?_;cases H;exact Rz f ⟨e,rfl⟩
def kb (p0:aa):Option Bool:=
 (if (p0.Kind==0)=true then
 some (p0.Kind==0)
 else
 some (p0.Kind==3)).bind fun e=>
 if e then
 some ((p0.Text.length:Int)==0)
 else
 (if (p0.Kind==1)=true then
 some (p0.Kind==1)
 else
 some (p0.Kind==2)).bind fun d=>
 if d then
 (bw (decide ((p0.Text.length:Int)>0)) (some (decide ((p0.Text.length:Int)<=16)))).bind fun a=>
 (bw a ((bR p0.Text).bind fun c=>
 some (!c))).bind fun b=>
 some b
 else
 some false
theorem vC (O0:Own c0 G F) (a:aa){r:Bool}(s:Sl (RI .i32) c0 v1 a.Text) (H:kb a=some r): RU 120 #[.agg #[I a.Kind,v1]] c0 fun c v=>Own c G F/\v=B r:=by
 unfold kb at H;refine en func120 rfl rfl<|sr ?_;obtain ⟨a3,a4,a5,rfl⟩:=(s).form;refine me (bx 61 [I a.Kind,.slice a3 a4 a5] O0) ?_;rintro v10 z l9 ⟨i,rfl,P,u⟩;refine Ri false<|Rx<|RB (Q i)<|vx (l1 u_3 (u 0 _ rfl))<|wln<|W.block<|bn H fun e0 d e=>W.seqJ (Jn z fun c l=>Own c G F/\l= [(1,Q i),(4,I a.Kind),(5,B e0)]) ?_ ?_
 ·refine sr<|Rk (a.Kind==0)<|RF d (fun U d=>?_) (fun U d=>?_)
  ·refine RG ?_;cases d;exact jn z ⟨P,rfl⟩
  refine W.region<|Rk (a.Kind==3)<|wln ?_;cases d;exact jn z ⟨P,rfl⟩
 rintro T w_ ⟨n,k0,_,rfl,o0,rfl,q,rfl⟩;refine cn e (fun X e=>?_) (fun X e=>?_)
 ·refine sr<|Rs i (0+1)<|vx (l1 cD ((mm u) 1 _ rfl))<|vx (ln 3 cD s.m)<|Rk ((a.Text.length:Int)==0)<|RD<|RK ?_;cases e;exact Rz n ⟨q,rfl⟩
 refine bn e fun D f b=>W.seqJ (Jn n fun c l=>Own c G F/\l= [(1,Q i),(12,B D)]) ?_ ?_
 ·refine sr<|Rk (a.Kind==1)<|RF f (fun Z f=>?_) (fun Z f=>?_)
  ·refine RG ?_;cases f;exact jn n ⟨q,rfl⟩
  refine W.region<|Rk (a.Kind==2)<|wln ?_;cases f;exact jn n ⟨q,rfl⟩
 rintro T w_ ⟨o,l0,_,rfl,q0,rfl,k,rfl⟩;refine cn b (fun a0 b=>?_) (fun a0 b=>?_)
 ·refine W.seq<|bn b fun j0 x b=>bn b fun A t b=>W.join (Jn o fun c l=>Own c G F/\l= [(2,B A)]) ?_ ?_
  ·clear b;refine W.region<|Rs i (0+1)<|vx (l1 cD ((mm u) 1 _ rfl))<|vx (ln 3 cD s.m)<|Rj ((a.Text.length:Int)>0) ?_;rcases bo (decide ((a.Text.length:Int)>0)) with g|g
   ·have E:=anT g x;refine vb g<|wa (Qo i (0+1))<|wn<|vx (l1 cD ((mm u) 1 _ rfl))<|wn<|vx (ln 3 cD s.m)<|Rm ((a.Text.length:Int)<=16) ?_;cases E;refine Rj ((a.Text.length:Int)<=16) ?_;rcases bo (decide ((a.Text.length:Int)<=16)) with h|h
    ·have p:=anT h t;refine vb h<|wa (Qo i (0+1))<|wn<|vx (l1 cD ((mm u) 1 _ rfl))<|wn<|bn p fun j b0 p=>cl (jz k a.Text s.m b0) ?_;rintro v43 R s0 ⟨M,rfl⟩;refine Rn (!j) ?_;cases p;exact Rk (!j)<|Ry R ⟨M,rfl⟩
    obtain rfl:=anF h t;exact vb h<|pz<|pz<|Rk false<|Ry o ⟨k,rfl⟩
   obtain rfl:=anF g x;refine vb g<|pz<|pz<|Ri false ?_;have y:false=false:=rfl;obtain rfl:=anF y t;exact vb y<|pz<|pz<|Rk false<|Ry o ⟨k,rfl⟩
  rintro T w_ ⟨S,m0,_,rfl,t0,rfl,N,rfl⟩;refine nrm<|W.ret<|RK ?_;cases b;exact Rz S ⟨N,rfl⟩
 refine W.skip<|RH<|Ru false<|RD ?_;cases b;exact Rz o ⟨k,rfl⟩
def jm (p0:List aa):Option Bool:=
 (cm (σ:=Bool×Int) (τ:=Bool ⊕ Bool) (((p0.length:Int)-0).toNat+1) (fun b=>
 if decide (b.2<(p0.length:Int)) then
 (idx p0 b.2).bind fun c=>
 (kb c).bind fun e=>
 (orE (!e) (some (!(b.1==(c.Kind==3))))).bind fun d=>
 if d then
 some (.inr (.inl false))
 else
 some (.inl (c.Kind==2,(w64 (b.2+1))))
 else
 some (.inr (.inr b.1))) (false,0)).bind fun a=>
 match a with
 | .inl a=>
 some a
 | .inr a=>
 some (!a)
theorem oM (O0:Own c0 G F) (p:List aa){r:Bool}(M:Sl aw c0 v1 p) (H:jm p=some r): RU 73 #[v1] c0 fun c v=>Own c G F/\v=B r:=by
 unfold jm at H;refine en func73 rfl rfl<|Ru false<|wln<|Ru false<|Rx<|RB v1<|vx (ln 3 cw M)<|Ro 0<|wln<|W.block<|bn H fun d h3 A=>lp h3 (fun b=>Jn c0 fun c l=>Own c G F/\l= [(3,B b.1),(6,v1),(7,I (p.length:Int)),(8,I b.2)]) (fun t=>match t with|.inl R=>(fun s0 ex e w=>ex= .ret/\(Jn c0 fun c l=>Own c G F/\l= [(2,B s0)]) e w) R|.inr R=>(fun N ex e w=>ex= .exit 0/\(Jn c0 fun c l=>Own c G F/\l= [(3,B N)]) e w) R) ?_ ?_ ?_
 ·clear A h3;intro b h1 g0 t0 H;revert g0 t0;rintro E P ⟨c5,g6,_,rfl,l5,rfl,O7,rfl⟩;refine sr<|Rj (b.2<(p.length:Int))<|Rx<|cn H (fun i0 H=>?_) (fun i0 H=>?_)
  ·refine RG<|RM<|sr<|bn H fun a y H=>?_;obtain ⟨x0,j0,q0⟩:=Sl.at (M.mono l5) (aP y);obtain ⟨v16,rfl,o⟩:=j0;refine vx (ix cw M.m y)<|vx (lN 61 q0)<|me (al 61 [I 0,Y] O7) ?_;rintro v21 y0 o0 ⟨g,rfl,T⟩;obtain ⟨j,k,n,rfl⟩:=((o.mono o0)).form;refine md (sA 61 [I a.Kind,.slice j k n] 0 T ⟨rfl,o.m.one,trivial⟩) ?_;rintro d0 c1 s;refine Rx<|W.seq<|bn H fun q k0 H=>bn H fun D z H=>W.join (Jn d0 fun c l=>Own c G ((Eb g 61 [I a.Kind,.slice j k n])::F)/\l= [(5,Q g),(6,v1),(7,I (p.length:Int)),(8,I b.2),(21,B D)]) ?_ ?_
   ·clear H;refine W.region<|vx (leN 61 0 [I a.Kind,.slice j k n] (s.on 0 rfl))<|cl (vC s a o.m k0) ?_;rintro v34 u d1 ⟨h,rfl⟩;refine Ri (!q) ?_;rcases bo (!q) with f|f
    ·obtain rfl:=orT f z;exact vb f<|pz<|pz<|ps<|Ri true<|Ry u ⟨h,rfl⟩
    have S:=orF f z;refine vb f<|Rn b.1<|wa (Q g)<|wn<|vx (le1 0 u_3 (h.on 0 rfl))<|Rn (a.Kind==3)<|Rn (!(b.1==(a.Kind==3))) ?_;cases S;exact Ri (!(b.1==(a.Kind==3)))<|Ry u ⟨h,rfl⟩
   rintro E P ⟨x,z0,_,rfl,e1,rfl,i,rfl⟩;refine nrm<|cn H (fun m0 H=>?_) (fun m0 H=>?_)
   ·refine Ru false<|RD<|thr<|RK ?_;cases H;refine ⟨_,rfl,⟨rfl,?_⟩⟩;have U:=i.sD 1 [];exact jn x ⟨U,rfl⟩
   refine RG<|Rv (Q g)<|vx (le1 0 u_3 (i.on 0 rfl))<|Rk (a.Kind==2)<|WL.nil<|RH<|W.region<|Rq (b.2+1)<|WL.nil ?_;cases H;refine ⟨_,rfl,?_⟩;have X:=i.sD 1 [];exact jn x ⟨X,rfl⟩
  refine W.exit<|thx ?_;cases H;exact ⟨_,rfl,rfl,jn c5 ⟨O7,rfl⟩⟩
 ·exact jn c0 ⟨O0,rfl⟩
 rcases d with d|d
 ·intro h0; revert h0;rintro _ E P ⟨rfl,e0,a1,_,rfl,f1,rfl,Z,rfl⟩;refine RK ?_;cases A;exact Rz e0 ⟨Z,rfl⟩
 rintro _ E P ⟨rfl,f0,b1,_,rfl,g1,rfl,a0,rfl⟩;refine RJ<|Ru d<|Rk (!d)<|RD ?_;cases A;exact Rz f0 ⟨a0,rfl⟩
def eI (p0:Int):Option (List aa):=
 (rep (bb 0 (aR p0 1024)) (⟨0,([]:List Int)⟩:aa)).bind fun a=>
 some a
theorem kF (f:Own c0 G F) (a:Int){r:List aa}(H:eI a=some r): RU 139 #[I a] c0 fun c v=>∃b e,Own c G (es true aw b 61 e r::F)/\v=b/\OA aw c b e r:=by
 unfold eI at H;refine en func139 rfl rfl<|RB Y<|wln<|RA a<|Ro (aR a 1024)<|Ro (bb 0 (aR a 1024))<|bn H fun m d H=>me (Own.mkS (kl:= .i64) (kc:= .i64) (R:=aw) (z:= .agg #[I 0,Y]) (lz:=[I 0,Y]) (x:=(⟨0,([]:List Int)⟩:aa)) (by_:=32) (i:=(bb 0 (aR a 1024))) (j:=(bb 0 (aR a 1024))) true f (ba _) d (DH _) (Cs d) cw (by kernel_rfl) rfl rfl (fun _=>⟨(Y),rfl,(Sl.nl _ _)⟩) (by kernel_rfl) (by kernel_rfl)) ?_;rintro v6 h n ⟨l,g,k⟩;refine va v6<|RD ?_;cases H;exact Rz h ⟨v6,l,g,rfl,k⟩
def lC (sg:Sto) (p0:Int):Option (Sto×(Option Nat)):=
 (eI (bb 1 p0)).bind fun b=>
 (some (sg.add_row_Row (⟨b,false⟩:bm))).bind fun a=>
 some (a,(some sg.row_Row.length))
theorem ws (N:Own c0 G F) (R:Rel c0 sg G) (g:Int){r:Sto×(Option Nat)}(H:lC sg g=some r): RU 93 #[I g] c0 fun c v=>∃M,∃G_:Gm,Own c G_ F/\Rel c r.1 G_/\eu G G_/\v=M/\Pt 0 c M r.2:=by
 unfold lC at H;refine en func93 rfl rfl<|RB (.pointer none)<|wln<|RA g<|Ro (bb 1 g)<|bn H fun j S H=>cl (kF N (bb 1 g) S) ?_;rintro v2 c9 T ⟨_,D,P,rfl,z⟩;obtain ⟨d,e,f,rfl⟩:=(z).form;refine va (.agg #[.slice d e f,B false])<|me (al 175 [.slice d e f,B false] P) ?_;rintro v17 U l16 ⟨a,rfl,l⟩;have m:=l.sD 2 [0,1];refine bn H fun A q H=>?_;obtain ⟨i,k,s,a0,t,n,h,X,u,o⟩:=Rel.new_row_Row (E:=[(Eb a 175 [.slice d e f,B false]),es true aw (.slice d e f) 61 D j]) (F:=F) (x:=(⟨j,false⟩:bm)) (b:=a) m (R.mono (T.trans l16)) (fun c_ hle_=>⟨a,(.slice d e f),D,rfl,rfl,((z.mono l16).mono hle_)⟩);rw [aL q] at h;refine WL.gh s.1 ?_;have Z:=eu.nil (eu.refl _) u;have p:=(eu.refl _).trans o;have y:Pt 0 i (Q a) (some sg.row_Row.length):=⟨a,rfl,t⟩;refine va (Q a)<|RD ?_;cases H;exact Rz i ⟨(Q a),k,n,h,p,rfl,y⟩
def mB (p0:aa):Option aa:=
 (ge p0.Text).bind fun a=>
 some (⟨p0.Kind,a⟩:aa)
theorem tz (E:Own c0 G F) (a:aa){r:aa}(t:Sl (RI .i32) c0 v1 a.Text) (H:mB a=some r): RU 106 #[.agg #[I a.Kind,v1]] c0 fun c v=>∃i D,Own c G (es true (RI .i32) i 21 D r.Text::F)/\v= .agg #[I r.Kind,i]/\OA (RI .i32) c i D r.Text:=by
 unfold mB at H;refine en func106 rfl rfl<|sr ?_;obtain ⟨N,P,R,rfl⟩:=(t).form;refine me (bx 61 [I a.Kind,.slice N P R] E) ?_;rintro v10 c9 l9 ⟨o,rfl,M,x⟩;refine me (al 61 [I 0,Y] M) ?_;rintro v14 U X ⟨T,rfl,j⟩;refine Rx<|rD [] (Kp G0 []) j ?_;intro p Z k;have d0:Kp G0 [] p:=Kp.nil0;refine ta 0 (Q o)<|tx 1 (fun S u=>l1 u_3 ((mm x) 0 _ rfl))<|ta 2 (Qo o (0+1))<|tx 3 (fun S u=>l1 cD ((mm x) 1 _ rfl))<|bn H fun e0 s H=>o1 4 (gc 4 (yi k a.Text t.m s) ?_);rintro v19 q a0 ⟨_,A,l,rfl,g⟩;have y:Kp G0 [] q:=Kp.nil0;refine ⟨.inr y,?_⟩;obtain ⟨b,d,e,rfl⟩:=(g).form;refine ta 5 (.agg #[I a.Kind,.slice b d e])<|o1 6 (gD 6 (sA 61 [I a.Kind,.slice b d e] 1 l ⟨rfl,(g).one,trivial⟩) ?_);rintro f b0 h;have z:Kp G0 [] f:=Kp.nil0;refine ⟨.inr z,dn (nrm<|W.ret ?_)⟩;cases H;have n:=h.sD 2 [0];exact uj (c:=f) (vs:=[I a.Kind,.slice b d e]) rfl (by kernel_rfl) (by kernel_rfl) (by kernel_rfl) (h.on 1 rfl _ rfl).1 ⟨_,f,rfl,rfl,pt,(.slice b d e),A,n,rfl,g.m⟩
def sy (sg:Sto) (p0:List aa):Option (Sto×(Option Nat)×Er):=
 (orE ((p0.length:Int)==0) (some (decide ((p0.length:Int)>1024)))).bind fun k=>
 if k then
 some (sg,(none:Option Nat),(Er.sent 7))
 else
 (jm p0).bind fun h=>
 if (!h)=true then
 some (sg,(none:Option Nat),(Er.sent 3))
 else
 (lC sg (p0.length:Int)).bind fun c=>
 (cm (σ:=Int×Sto) (τ:=Sto) (((p0.length:Int)-0).toNat+1) (fun a=>
 if decide (a.1<(p0.length:Int)) then
 (idx p0 a.1).bind fun i=>
 (c.2).bind fun e=>
 (a.2.row_Row[e]?).bind fun b=>
 (mB i).bind fun j=>
 (idx b.cells a.1).bind fun l=>
 (pJ b.cells a.1 j).bind fun g=>
 (a.2.set_row_Row e (⟨g,b.wrap⟩:bm)).bind fun d=>
 some (.inl ((w64 (a.1+1)),d))
 else
 some (.inr a.2)) (0,c.1)).bind fun f=>
 some (f,c.2,Er.nil)
theorem GV (O0:Own c0 G F) (R0:Rel c0 sg G) (hG:Gl [3,7] c0) (d:List aa){r:Sto×(Option Nat)×Er}(j:Sl aw c0 v1 d) (H:sy sg d=some r): RU 204 #[v1] c0 fun c v=>∃y1 y2,∃G_:Gm,Own c G_ F/\Rel c r.1 G_/\v= .tuple #[y1,y2]/\Pt 0 c y1 r.2.1/\RE 352 80 c y2 r.2.2:=by
 unfold sy at H;refine en func204 rfl rfl<|RB (.pointer none)<|va (.nilIface)<|Rx<|W.block<|W.seq<|bn H fun m2 h3 H=>W.join (Jn c0 fun c l=>Own c G F/\l= [(0,v1),(7,B m2)]) ?_ ?_
 ·clear H;refine Rv v1<|vx (ln 3 cw j)<|Ri ((d.length:Int)==0) ?_;rcases bo ((d.length:Int)==0) with M|M
  ·obtain rfl:=orT M h3;exact vb M<|pz<|ps<|Rk true<|Ry c0 ⟨O0,rfl⟩
  have H5:=orF M h3;refine vb M<|wa v1<|wn<|vx (ln 3 cw j)<|Rm ((d.length:Int)>1024) ?_;cases H5;exact vv (B (decide ((d.length:Int)>1024)))<|Ry c0 ⟨O0,rfl⟩
 rintro e_ w_ ⟨c6,g7,_,rfl,l6,rfl,O8,rfl⟩;refine nrm<|cn H (fun p2 H=>?_) (fun p2 H=>?_)
 ·refine W.seq<|rD [] (Kp G0 []) O8 ?_;intro g0 g3 w1;have j4:Kp G0 [] g0:=Kp.nil0;obtain ⟨v16,i0⟩:=(hG.mono (l6.trans g3)).get 7 (by decide);refine tx 0 (fun c' p=>l1 tB i0.m.im)<|ta 1 (.pointer none)<|ta 2 v16<|dn (nrm<|W.ret<|RK ?_);cases H;exact r2 (qq g0 ⟨(.pointer none),v16,G,w1,R0.m,rfl,rfl,i0⟩)
 refine RB v1<|bn H fun Z q2 H=>cl (oM O8 d j.m q2) ?_;rintro v24 e4 t0 ⟨e0,rfl⟩;refine Rk (!Z)<|RF H (fun s2 H=>?_) (fun s2 H=>?_)
 ·refine W.seq<|rD [] (Kp G0 []) e0 ?_;intro h0 i3 x1;have k4:Kp G0 [] h0:=Kp.nil0;obtain ⟨v29,j0⟩:=(hG.mono (l6.trans (t0.trans i3))).get 3 (by decide);refine tx 0 (fun c' p=>l1 tB j0.m.im)<|ta 1 (.pointer none)<|ta 2 v29<|dn (nrm<|W.ret<|RK ?_);cases H;exact r2 (qq h0 ⟨(.pointer none),v29,G,x1,R0.m,rfl,rfl,j0⟩)
 refine W.skip<|RH<|RB v1<|vx (ln 3 cw j.m)<|bn H fun b4 u2 H=>cl (ws e0 R0.m (d.length:Int) u2) ?_;rintro v32 E j3 ⟨_,t1,z1,g2,d4,rfl,k0⟩;refine va v32<|Rx<|RB v1<|vx (ln 3 cw j.m)<|Ro 0<|wln<|W.block<|bn H fun a4 l0 d0=>lp l0 (fun a=>Jn E fun c l=>∃G_,Own c G_ F/\l= [(4,v32),(25,v1),(26,I (d.length:Int)),(27,I a.1)]/\Rel c a.2 G_) (fun b0 ex e w=>ex= .exit 1/\(Jn E fun c l=>∃G_,Own c G_ F/\l= [(4,v32)]/\Rel c b0 G_) e w) ?_ ?_ ?_
 ·clear d0 l0;intro a p4 o2 p3 H;revert o2 p3;rintro e_ w_ ⟨i2,i4,_,rfl,u0,rfl,i,f0,rfl,y⟩;refine sr<|Rj (a.1<(d.length:Int))<|Rx<|cn H (fun v2 H=>?_) (fun v2 H=>?_)
  ·refine RG<|RM<|RA a.1<|bn H fun b m0 H=>?_;obtain ⟨z3,w2,l3⟩:=Sl.at (j.mono (l6.trans (t0.trans (j3.trans u0)))) (aP m0);obtain ⟨v53,rfl,N⟩:=w2;refine vx (ix cw j.m m0)<|vx (lN 61 l3)<|me (al 61 [I 0,Y] f0) ?_;rintro v58 f4 q ⟨n,rfl,b2⟩;refine Ro a.1 ?_;obtain ⟨f,g,h,rfl⟩:=((N.mono q)).form;refine md (sA 61 [I b.Kind,.slice f g h] 0 b2 ⟨rfl,N.m.one,trivial⟩) ?_;rintro g4 S c2;refine wln<|rD [8] (Kp i [(Eb n 61 [I b.Kind,.slice f g h])]) c2 ?_;intro j2 U s;have w0:=(Kp.cons (s.on 0 rfl) (Kp.nil s));refine ta 0 v32<|bn H fun x3 x2 H=>?_;obtain ⟨o,rfl,o0⟩:=((k0.mono (u0.trans (q.trans (S.trans U))))).get x2;refine ta 1 (Q o)<|ta 2 (Q o)<|bn H fun p1 z2 H=>?_;obtain ⟨X,l4,s0,q0⟩:=Rel.open_row_Row (y.mono (q.trans (S.trans U))) z2 o0;refine tkx 3 w0 (fun c' p hk=>le1 0 cw (hk.gon s0 0 rfl)) (ta 4 (I a.1)<|tkx 5 w0 (fun c' p hk=>leN 61 0 [I b.Kind,.slice f g h] (hk.on 0 rfl)) (bn H fun k a3 H=>o1 6 (gc 6 (tz s b N.m a3) ?_)));rintro o4 k2 k3 ⟨n4,m4,t,rfl,b3⟩;have m3:=(Kp.cons (t.on 1 rfl) (Kp.nil t));refine ⟨.inr m3,bn H fun c4 c3 H=>tx 7 (fun c' p=>ixO cw q0.m c3) ?_⟩;obtain ⟨l2,d3,v0,x,P⟩:=t.frz 0 rfl b3;have n3:=(Kp.cons (x.on 1 rfl) (Kp.nil x));refine AC.gh d3 v0 (fun _=>n3) ?_;obtain ⟨z,A,D,rfl⟩:=(P).form;have e2:=x.borrow 1 s0 rfl;refine bn H fun q1 e3 H=>o1 8 (gD 8 (Own.stW (R:=aw) (T:=61) (us:=[I k.Kind,.slice z A D]) (x':=k) (u:= .agg #[I k.Kind,.slice z A D]) 0 e2 (by kernel_rfl) rfl q0.m e3 rfl (by kernel_rfl) ⟨rfl,P.one,trivial⟩ rfl ⟨(.slice z A D),rfl,P⟩) ?_);rintro h1 m1 ⟨x0,f2,f3⟩;have a1:=f2.giveB 1 rfl;refine bn H fun s1 j1 H=>?_;obtain ⟨y0,b1,f1,w3,u3⟩:=Rel.put_row_Row a1 (y.mono (q.trans (S.trans (U.trans (k3.trans (v0.trans m1)))))) (E':=[(Eb o 175 [X,B p1.wrap]),es true aw X 61 x0 q1]) j1 ⟨o,X,x0,(tm o0),rfl,f3⟩;refine ⟨.inl rfl,dn (RH<|W.region<|Rq (a.1+1)<|WL.nil ?_)⟩;cases H;refine ⟨_,rfl,?_⟩;have c1:=b1.sD 2 [];exact jn h1 ⟨y0,c1,rfl,f1⟩
  refine W.exit<|thx ?_;cases H;exact ⟨_,rfl,rfl,jn i2 ⟨i,f0,rfl,y⟩⟩
 ·exact jn E ⟨t1,z1,rfl,g2⟩
 rintro _ e_ w_ ⟨rfl,i1,v3,_,rfl,y3,rfl,z0,d1,rfl,g1⟩;refine RJ<|sr<|vv v32<|va (.nilIface)<|RD ?_;cases d0;exact r2 (qq i1 ⟨v32,.nilIface,z0,d1,g1,rfl,k0.m,rfl⟩)
def bN (sg:Sto) (p0:Option Nat):Option Int:=
 if p0.isNone then
 some 0
 else
 (p0).bind fun b=>
 (sg.row_Row[b]?).bind fun a=>
 some (a.cells.length:Int)
theorem cH (d:Own c0 G F) (k:Rel c0 sg G) (f:Option Nat){r:Int}(j:Pt 0 c0 v1 f) (H:bN sg f=some r): RU 60 #[v1] c0 fun c v=>Own c G F/\v=I r:=by
 unfold bN at H;refine en func60 rfl rfl<|RA 0<|Rx<|RB v1<|vr (B f.isNone) (by rcases (j).cs with ⟨a,b⟩|⟨q,a,b⟩ <;> (subst a; rw [b]; kernel_rfl))<|RF H (fun l H=>?_) (fun l H=>?_)
 ·refine RA 0<|RD<|thr ?_;cases H;exact Rz c0 ⟨d,rfl⟩
 refine RG<|RB v1<|bn H fun p n H=>?_;obtain ⟨g,rfl,m⟩:=(j).get n;refine vv (Q g)<|bn H fun e o H=>?_;obtain ⟨v8,s,i,h⟩:=Rel.open_row_Row k o m;refine vx (le1 0 cw (d.gon i 0 rfl))<|vx (lnO 3 cw h)<|Ro (e.cells.length:Int)<|RD ?_;cases H;exact Rz c0 ⟨d,rfl⟩
def eM (sg:Sto) (p0:Option Nat):Option (List aa):=
 (bN sg p0).bind fun b=>
 (cm (σ:=(List aa)×Int) (τ:=(List aa)) ((b-0).toNat+1) (fun a=>
 if decide (a.2<b) then
 (p0).bind fun c=>
 (sg.row_Row[c]?).bind fun d=>
 (idx d.cells a.2).bind fun e=>
 (mB e).bind fun f=>
 (app a.1 ([f]:List aa)).bind fun g=>
 some (.inl (g,(w64 (a.2+1))))
 else
 some (.inr a.1)) (([]:List aa),0)).bind fun h=>
 some h
theorem mc (O0:Own c0 G F) (R0:Rel c0 sg G) (M:Option Nat){r:List aa}(h2:Pt 0 c0 v1 M) (H:eM sg M=some r): RU 61 #[v1] c0 fun c v=>∃N y2,Own c G (es true aw N 61 y2 r::F)/\v=N/\OA aw c N y2 r:=by
 unfold eM at H;refine en func61 rfl rfl<|RB Y<|wln<|RB Y<|Rx<|RB v1<|bn H fun E h3 H=>cl (cH O0 R0 M h2 h3) ?_;rintro v9 o l8 ⟨O5,rfl⟩;refine Ro 0<|wln<|W.block<|bn H fun j2 x p=>lp x (fun a=>Jn o fun c l=>∃v12 f,Own c G (es true aw v12 61 f a.1::F)/\l= [(0,v1),(3,v12),(6,I E),(7,I a.2)]/\OA aw c v12 f a.1) (fun k ex e w=>ex= .exit 0/\(Jn o fun c l=>∃v14 g,Own c G (es true aw v14 61 g k::F)/\l= [(3,v14)]/\OA aw c v14 g k) e w) ?_ ?_ ?_
 ·clear p x;intro a n2 h0 f1 H;revert h0 f1;rintro e_ w_ ⟨e0,z1,_,rfl,l16,rfl,v12,f,d,rfl,y⟩;refine sr<|Rj (a.2<E)<|Rx<|cn H (fun j0 H=>?_) (fun j0 H=>?_)
  ·refine RG<|RM<|sr<|vv (I a.2)<|wln<|Rv v12<|va v1<|bn H fun m1 l0 H=>?_;obtain ⟨u,rfl,k0⟩:=((h2.mono (l8.trans l16))).get l0;refine vv (Q u)<|bn H fun p1 m0 H=>?_;obtain ⟨v28,k2,z,h⟩:=Rel.open_row_Row (R0.mono (l8.trans l16)) m0 k0;refine vx (le1 0 cw (d.gon z 0 rfl))<|Ro a.2<|bn H fun b i H=>vx (ixO cw h i) ?_;obtain ⟨n1,o0,d1⟩:=OA.at h i;obtain ⟨v36,rfl,q0⟩:=o0;refine vr (.agg #[I b.Kind,v36]) (rx (by kernel_rfl) (J2 (T:=61) (l:=[I b.Kind,v36]) (by kernel_rfl) (by kernel_rfl) (d.gon z 1 rfl) (h.blk i) (at2 (j:=0) d1 rfl)))<|bn H fun n s0 H=>cl (tz d b q0 s0) ?_;rintro v47 t1 c2 ⟨v39,l2,P,rfl,t0⟩;obtain ⟨u1,u0,d2,R,A⟩:=P.frz 0 rfl t0;refine WL.gh u0 ?_;obtain ⟨q,s,t,rfl⟩:=(A).form;refine me (sl aw 61 [[I n.Kind,.slice q s t]] ([n]:List aa) R ⟨⟨(.slice q s t),rfl,A⟩,trivial⟩) ?_;rintro v59 w1 e2 ⟨m2,S,v0⟩;obtain ⟨x1,x0,f2,U,w0⟩:=S.frz 0 rfl v0;refine WL.gh x0 (bn H fun s1 y0 H=>me (ap aw (.agg #[I 0,Y]) 32 54 2 U y.m w0 y0 cw) ?_);rintro D f0 g2 ⟨e1,X,z0⟩;refine va D<|WL.nil<|RH<|W.region<|Rq (a.2+1)<|WL.nil ?_;cases H;refine ⟨_,rfl,?_⟩;have Z:=X.sD 3 [2];exact jn f0 ⟨D,e1,Z,rfl,z0⟩
  refine W.exit<|thx ?_;cases H;exact ⟨_,rfl,rfl,jn e0 ⟨v12,f,d,rfl,y⟩⟩
 ·have a1:OA aw o Y [] []:=OA.nil (ba _);have a0:=O5.addHole (e:=es true aw Y 61 [] ([]:List aa)) rfl;exact jn o ⟨(Y),[],a0,rfl,a1⟩
 rintro _ e_ w_ ⟨rfl,g0,b2,_,rfl,i2,rfl,v14,g,b0,rfl,b1⟩;refine RJ<|sr<|vv v14<|RD ?_;cases p;exact Rz g0 ⟨v14,g,b0,rfl,b1⟩
def gg (sg:Sto) (p0:Option Nat) (p1:Int):Option (aa×Bool):=
 (orE (decide (p1<0)) ((bN sg p0).bind fun c=>
 some (decide (p1>=c)))).bind fun f=>
 if f then
 some ((⟨0,([]:List Int)⟩:aa),false)
 else
 (p0).bind fun a=>
 (sg.row_Row[a]?).bind fun b=>
 (idx b.cells p1).bind fun d=>
 (mB d).bind fun e=>
 some (e,true)
theorem sL (O0:Own c0 G F) (Z:Rel c0 sg G) (E:Option Nat) (a:Int){r:aa×Bool}(h2:Pt 0 c0 v1 E) (H:gg sg E a=some r): RU 311 #[v1,I a] c0 fun c v=>∃M y2,Own c G (es true (RI .i32) M 21 y2 r.1.Text::F)/\v= .tuple #[.agg #[I r.1.Kind,M],B r.2]/\OA (RI .i32) c M y2 r.1.Text:=by
 unfold gg at H;refine en func311 rfl rfl<|sr<|me (al 61 [I 0,Y] O0) ?_;rintro v6 c5 l5 ⟨b3,rfl,S⟩;refine Ri false<|Rx<|W.seq<|bn H fun e0 h7 H=>W.join (Jn c5 fun c l=>Own c G ((Eb b3 61 [I 0,Y])::F)/\l= [(0,v1),(1,I a),(4,Q b3),(13,B e0)]) ?_ ?_
 ·clear H;refine RC a<|Rj (a<0) ?_;rcases bo (decide (a<0)) with p|p
  ·obtain rfl:=orT p h7;exact vb p<|pz<|pz<|Ri true<|Ry c5 ⟨S,rfl⟩
  have D:=orF p h7;refine vb p<|wa (I a)<|wa v1<|wn<|bn D fun q f0 D=>cl (cH S Z.m E h2.m f0) ?_;rintro v16 b0 e1 ⟨N,rfl⟩;refine Rm (a>=q) ?_;cases D;exact Rj (a>=q)<|Ry b0 ⟨N,rfl⟩
 rintro e_ w_ ⟨b1,d1,_,rfl,A,rfl,d,rfl⟩;refine nrm<|cn H (fun h0 H=>?_) (fun h0 H=>?_)
 ·refine RB (.agg #[I 0,Y])<|md (sA 61 [I 0,Y] 0 d ⟨rfl,rfl,trivial⟩) ?_;rintro i f1 P;refine Ri false<|RD<|thr ?_;cases H;have i0:OA (RI .i32) i Y [] []:=OA.nil (ba _);have t:=P.addHole (e:=es true (RI .i32) Y 21 [] ([]:List Int)) rfl;have R:=t.sD 2 [0];exact xA (c:=i) (vs:=[I 0,Y]) (v:=B false) rfl (by kernel_rfl) (by kernel_rfl) (by kernel_rfl) (by kernel_rfl) (t.on 1 rfl _ rfl).1 ⟨_,i,rfl,rfl,pt,(Y),[],R,rfl,i0⟩
 refine RG<|RB v1<|bn H fun y0 k0 H=>?_;obtain ⟨x,rfl,j0⟩:=((h2.mono (l5.trans A))).get k0;refine vv (Q x)<|bn H fun a1 l0 H=>?_;obtain ⟨v33,i1,z,k⟩:=Rel.open_row_Row (Z.mono (l5.trans A)) l0 j0;refine vx (le1 0 cw (d.gon z 0 rfl))<|Ro a<|bn H fun b n H=>vx (ixO cw k n) ?_;obtain ⟨z0,m0,u0⟩:=OA.at k n;obtain ⟨v41,rfl,o0⟩:=m0;refine vr (.agg #[I b.Kind,v41]) (rx (by kernel_rfl) (J2 (T:=61) (l:=[I b.Kind,v41]) (by kernel_rfl) (by kernel_rfl) (d.gon z 1 rfl) (k.blk n) (at2 (j:=0) u0 rfl)))<|bn H fun s q0 H=>cl (tz d b o0 q0) ?_;rintro v52 c1 g1 ⟨v44,v0,U,rfl,o⟩;obtain ⟨f,g,h,rfl⟩:=(o).form;refine md (sA 61 [I s.Kind,.slice f g h] 1 U ⟨rfl,(o).one,trivial⟩) ?_;rintro y h1 u;refine Ri true<|RD ?_;cases H;have X:=u.sD 2 [0];exact xA (c:=y) (vs:=[I s.Kind,.slice f g h]) (v:=B true) rfl (by kernel_rfl) (by kernel_rfl) (by kernel_rfl) (by kernel_rfl) (u.on 1 rfl _ rfl).1 ⟨_,y,rfl,rfl,pt,(.slice f g h),v0,X,rfl,o.m⟩
def ii (sg:Sto) (p0:Option Nat) (p1:Int):Option Int:=
 (orE (decide (p1<0)) ((bN sg p0).bind fun e=>
 some (decide (p1>=e)))).bind fun d=>
 if d then
 some 0
 else
 (p0).bind fun a=>
 (sg.row_Row[a]?).bind fun b=>
 (idx b.cells p1).bind fun c=>
 some c.Kind
theorem sK (q:Own c0 G F) (s:Rel c0 sg G) (p:Option Nat) (a:Int){r:Int}(y:Pt 0 c0 v1 p) (H:ii sg p a=some r): RU 291 #[v1,I a] c0 fun c v=>Own c G F/\v=I r:=by
 unfold ii at H;refine en func291 rfl rfl<|RA 0<|Rx<|W.seq<|bn H fun u E H=>W.join (Jn c0 fun c l=>Own c G F/\l= [(0,v1),(1,I a),(12,B u)]) ?_ ?_
 ·clear H;refine RC a<|Rj (a<0) ?_;rcases bo (decide (a<0)) with f|f
  ·obtain rfl:=orT f E;exact vb f<|pz<|pz<|Ri true<|Ry c0 ⟨q,rfl⟩
  have o:=orF f E;refine vb f<|wa (I a)<|wa v1<|wn<|bn o fun n R o=>cl (cH q s p y R) ?_;rintro v12 t a0 ⟨P,rfl⟩;refine Rm (a>=n) ?_;cases o;exact Rj (a>=n)<|Ry t ⟨P,rfl⟩
 rintro e_ w_ ⟨i,X,_,rfl,m,rfl,b,rfl⟩;refine nrm<|cn H (fun x H=>?_) (fun x H=>?_)
 ·refine RA 0<|RD<|thr ?_;cases H;exact Rz i ⟨b,rfl⟩
 refine RG<|RB v1<|bn H fun S A H=>?_;obtain ⟨h,rfl,z⟩:=((y.mono m)).get A;refine vv (Q h)<|bn H fun U D H=>?_;obtain ⟨v24,b0,k,d⟩:=Rel.open_row_Row (s.mono m) D z;refine vx (le1 0 cw (b.gon k 0 rfl))<|Ro a<|bn H fun g e H=>vx (ixO cw d e)<|Rs (sb v24) (a.toNat*2) ?_;obtain ⟨T,M,N⟩:=OA.at d e;obtain ⟨v32,rfl,Z⟩:=M;refine vr (I g.Kind) (rx (by kernel_rfl) (sn u_3 rfl (b.gon k 1 rfl) (d.blk e) (at1 (j:=0) N rfl)))<|Ro g.Kind<|RD ?_;cases H;exact Rz i ⟨b,rfl⟩
def fY (sg:Sto) (p0:Option Nat) (p1:Int) (p2:aa):Option Sto:=
 (p0).bind fun d=>
 (sg.row_Row[d]?).bind fun e=>
 (mB p2).bind fun f=>
 (idx e.cells p1).bind fun g=>
 (pJ e.cells p1 f).bind fun b=>
 (sg.set_row_Row d (⟨b,e.wrap⟩:bm)).bind fun a=>
 if (p1==(w64 ((b.length:Int)-1)))=true then
 (a.set_row_Row d (⟨b,false⟩:bm)).bind fun c=>
 some c
 else
 some a
theorem pO (O0:Own c0 G F) (R0:Rel c0 sg G) (p0:Option Nat) (o:Int) (p:aa){r:Sto}(h2:Pt 0 c0 v1 p0) (h4:Sl (RI .i32) c0 v3 p.Text) (H:fY sg p0 o p=some r): RU 292 #[v1,I o,.agg #[I p.Kind,v3]] c0 fun c v=>∃G_:Gm,Own c G_ F/\Rel c r G_/\v= .tuple #[]:=by
 unfold fY at H;refine en func292 rfl rfl<|sr ?_;obtain ⟨a5,a6,a7,rfl⟩:=(h4).form;refine me (bx 61 [I p.Kind,.slice a5 a6 a7] O0) ?_;rintro v12 b2 l ⟨b8,rfl,O9,f1⟩;refine Rx<|rD [8] (Kp G []) O9 ?_;intro k0 n s;have i1:=(Kp.nil s);refine ta 0 v1<|bn H fun d2 s0 H=>?_;obtain ⟨a,rfl,i⟩:=((h2.mono (l.trans n))).get s0;refine ta 1 (Q a)<|ta 2 (Q a)<|bn H fun g1 t0 H=>?_;obtain ⟨v20,e2,A,z⟩:=Rel.open_row_Row (R0.mono (l.trans n)) t0 i;refine tkx 3 i1 (fun c' E hk=>le1 0 cw (hk.gon A 0 rfl)) (ta 4 (I o)<|tx 5 (fun c' E=>lN 61 (mm f1))<|bn H fun q u0 H=>o1 6 (gc 6 (tz s p h4.m u0) ?_));rintro v33 l0 d1 ⟨v25,f2,t,rfl,v0⟩;have j1:=(Kp.nil t);refine ⟨.inr j1,bn H fun x1 w0 H=>tx 7 (fun c' E=>ixO cw z.m w0) ?_⟩;obtain ⟨m0,x0,M,x,j⟩:=t.frz 0 rfl v0;have k1:=(Kp.nil x);refine AC.gh x0 M (fun _=>k1) ?_;obtain ⟨f,g,h,rfl⟩:=(j).form;have Z:=x.borrow 1 A rfl;refine bn H fun b z0 H=>o1 8 (gD 8 (Own.stW (R:=aw) (T:=61) (us:=[I q.Kind,.slice f g h]) (x':=q) (u:= .agg #[I q.Kind,.slice f g h]) 0 Z (by kernel_rfl) rfl z.m z0 rfl (by kernel_rfl) ⟨rfl,j.one,trivial⟩ rfl ⟨(.slice f g h),rfl,j⟩) ?_);rintro o0 e1 ⟨d,a0,k⟩;have b0:=a0.giveB 1 rfl;refine bn H fun P a1 H=>?_;obtain ⟨U,e,y,D,y1⟩:=Rel.put_row_Row b0 (R0.mono (l.trans (n.trans (d1.trans (M.trans e1))))) (E':=[(Eb a 175 [v20,B g1.wrap]),es true aw v20 61 d b]) a1 ⟨a,v20,d,(tm i),rfl,k⟩;refine ⟨.inl rfl,dn (nrm<|RA o<|vv (Q a)<|va (Q a)<|vx (le1 0 cw (e.gon D 0 rfl))<|vx (lnO 3 cw k)<|Rt ((b.length:Int)-1)<|Ri (o==(w64 ((b.length:Int)-1)))<|RF H (fun b1 H=>?_) (fun b1 H=>?_))⟩
 ·refine W.region<|vv (Q a)<|Rs a 1<|md (gC 4 1 (B false) [v20,B false] 0 e D ⟨rfl,trivial⟩) ?_;rintro q0 N d0;refine bn H fun S c1 H=>?_;obtain ⟨X,e0,i0,c2,z1⟩:=Rel.put_row_Row d0 (y.mono N) (E':=[(Eb a 175 [v20,B false]),es true aw v20 61 d b]) c1 ⟨a,v20,d,(tm i),rfl,(k.mono N)⟩;refine WL.nil ?_;cases H;have f0:=e0.sD 1 [];exact RN q0 ⟨X,f0,i0,rfl⟩
 refine W.skip ?_;cases H;have g0:=e.sD 1 [];exact RN o0 ⟨U,g0,y,rfl⟩
def ei (sg:Sto) (p0:Option Nat) (p1:Int) (p2:List aa):Option (Sto×Er):=
 (orE p0.isNone (some (decide (p1<0)))).bind fun q=>
 (orE q ((p0).bind fun d=>
 (sg.row_Row[d]?).bind fun f=>
 some (decide (p1>(f.cells.length:Int))))).bind fun r=>
 (orE r ((p0).bind fun e=>
 (sg.row_Row[e]?).bind fun g=>
 some (decide ((p2.length:Int)>(w64 ((g.cells.length:Int)-p1)))))).bind fun c=>
 if c then
 some (sg,(Er.sent 7))
 else
 (jm p2).bind fun i=>
 if (!i)=true then
 some (sg,(Er.sent 3))
 else
 if ((p2.length:Int)==0)=true then
 some (sg,Er.nil)
 else
 ((ii sg p0 p1).bind fun j=>
 if (j==3)=true then
 (fY sg p0 (w64 (p1-1)) (⟨0,([]:List Int)⟩:aa)).bind fun k=>
 some k
 else
 some sg).bind fun b=>
 ((ii b p0 (w64 (p1+(p2.length:Int)))).bind fun l=>
 if (l==3)=true then
 (fY b p0 (w64 (p1+(p2.length:Int))) (⟨0,([]:List Int)⟩:aa)).bind fun m=>
 some m
 else
 some b).bind fun p=>
 (cm (σ:=Int×Sto) (τ:=Sto) (((p2.length:Int)-0).toNat+1) (fun a=>
 if decide (a.1<(p2.length:Int)) then
 (idx p2 a.1).bind fun n=>
 (fY a.2 p0 (w64 (p1+a.1)) n).bind fun o=>
 some (.inl ((w64 (a.1+1)),o))
 else
 some (.inr a.2)) (0,p)).bind fun h=>
 some (h,Er.nil)
theorem ko (A:Own c0 G F) (o:Rel c0 sg G) (hG:Gl [3,7] c0) (j:Option Nat) (a:Int) (f:List aa){r:Sto×Er}(s:Pt 0 c0 v1 j) (x:Sl aw c0 v3 f) (H:ei sg j a f=some r): RU 260 #[v1,I a,v3] c0 fun c v=>∃y1,∃G_:Gm,Own c G_ F/\Rel c r.1 G_/\v=y1/\RE 352 80 c y1 r.2:=by
 unfold ei at H;refine en func260 rfl rfl<|RB (.nilIface)<|Rx<|W.block<|W.seq<|bn H fun u4 h5 H=>bn H fun v4 h6 H=>bn H fun j1 h7 H=>W.join (Jn c0 fun c l=>Own c G F/\l= [(0,v1),(1,I a),(2,v3),(10,B j1)]) ?_ ?_
 ·clear H;refine Rv v1<|vr (B j.isNone) (by rcases (s).cs with ⟨q0,s0⟩|⟨b_,q0,s0⟩ <;> (subst q0; rw [s0]; kernel_rfl)) ?_;rcases bo j.isNone with h8|h8
  ·obtain rfl:=orT h8 h5;refine vb h8<|pz<|Ri true ?_;have h9:true=true:=rfl;obtain rfl:=orT h9 h6;refine vb h9<|pz<|pz<|pz<|ps<|Ri true ?_;have m0:true=true:=rfl;obtain rfl:=orT m0 h7;exact vb m0<|pz<|pz<|pz<|pz<|pz<|Rk true<|Ry c0 ⟨A,rfl⟩
  have g2:=orF h8 h5;refine vb h8<|wa (I a)<|Rm (a<0) ?_;cases g2;refine Rj (a<0) ?_;rcases bo (decide (a<0)) with q|q
  ·obtain rfl:=orT q h6;refine vb q<|pz<|pz<|pz<|ps<|Ri true ?_;have o0:true=true:=rfl;obtain rfl:=orT o0 h7;exact vb o0<|pz<|pz<|pz<|pz<|pz<|Rk true<|Ry c0 ⟨A,rfl⟩
  have k:=orF q h6;refine vb q<|wa (I a)<|wa v1<|wn<|bn k fun i4 a3 k=>?_;obtain ⟨p,rfl,z2⟩:=(s).get a3;refine va (Q p)<|wa (Q p)<|wn<|bn k fun y b3 k=>?_;obtain ⟨v19,d5,d3,c3⟩:=Rel.open_row_Row o b3 z2;refine vx (le1 0 cw (A.gon d3 0 rfl))<|wn<|vx (lnO 3 cw c3)<|Rm (a>(y.cells.length:Int)) ?_;cases k;refine Rj (a>(y.cells.length:Int)) ?_;rcases bo (decide (a>(y.cells.length:Int))) with t|t
  ·obtain rfl:=orT t h7;exact vb t<|pz<|pz<|pz<|pz<|pz<|Rk true<|Ry c0 ⟨A,rfl⟩
  have n:=orF t h7;refine vb t<|wa v3<|wn<|vx (ln 3 cw x)<|wa (Q p)<|wn<|bn n fun j4 f3 n=>?_;have e3:=(s).get2 f3;refine va (Q p)<|wa (Q p)<|wn<|bn n fun i g3 n=>?_;obtain ⟨v29,e5,i3,h3⟩:=Rel.open_row_Row o g3 e3;refine vx (le1 0 cw (A.gon i3 0 rfl))<|wn<|vx (lnO 3 cw h3)<|wa (I a)<|wa (I (w64 ((i.cells.length:Int)-a)))<|Rm ((f.length:Int)>(w64 ((i.cells.length:Int)-a))) ?_;cases n;exact vv (B (decide ((f.length:Int)>(w64 ((i.cells.length:Int)-a)))))<|Ry c0 ⟨A,rfl⟩
 rintro e_ w_ ⟨s2,w4,_,rfl,d0,rfl,j0,rfl⟩;refine nrm<|cn H (fun j3 H=>?_) (fun j3 H=>?_)
 ·refine sr ?_;obtain ⟨v40,t0⟩:=(hG.mono d0).get 7 (by decide);refine vx (l1 tB t0.im)<|va v40<|RD<|RK ?_;cases H;exact Rz s2 ⟨v40,G,j0,o.m,rfl,t0⟩
 refine RB v3<|bn H fun e0 k3 H=>cl (oM j0 f x.m k3) ?_;rintro v48 X w0 ⟨N,rfl⟩;refine Rk (!e0)<|RF H (fun l3 H=>?_) (fun l3 H=>?_)
 ·refine sr ?_;obtain ⟨v50,u0⟩:=(hG.mono (d0.trans w0)).get 3 (by decide);refine vx (l1 tB u0.im)<|va v50<|RD<|RK ?_;cases H;exact Rz X ⟨v50,G,N,o.m,rfl,u0⟩
 refine RB v3<|vx (ln 3 cw x.m)<|Rk ((f.length:Int)==0)<|RF H (fun n3 H=>?_) (fun n3 H=>?_)
 ·refine RB (.nilIface)<|RD<|RK ?_;cases H;exact Rz X ⟨.nilIface,G,N,o.m,rfl,rfl⟩
 refine W.skip<|RH<|bn H fun z1 g i2=>W.seqJ (Jn X fun c l=>∃G_,Own c G_ F/\l= [(0,v1),(1,I a),(2,v3)]/\Rel c z1 G_) ?_ ?_
 ·refine RB v1<|Ro a<|bn g fun w1 o3 g=>cl (sK N o.m j a s.m o3) ?_;rintro f5 t2 z4 ⟨k0,rfl⟩;refine Ri (w1==3)<|RF g (fun p3 g=>?_) (fun p3 g=>?_)
  ·refine Rv v1<|Ro a<|Rt (a-1)<|va (.agg #[I 0,Y])<|bn g fun r4 q3 g=>cl (pO k0 o.m j (w64 (a-1)) (⟨0,([]:List Int)⟩:aa) s.m (Sl.nl _ _) q3) ?_;rintro g5 u2 a5 ⟨c2,j2,n2,rfl⟩;refine wln ?_;cases g;exact jn u2 ⟨c2,j2,rfl,n2⟩
  refine RG ?_;cases g;exact jn t2 ⟨G,k0,rfl,o.m⟩
 rintro e_ w_ ⟨v2,x4,_,rfl,x3,rfl,d2,k2,rfl,R⟩;refine bn i2 fun b2 h d=>W.seqJ (Jn v2 fun c l=>∃G_,Own c G_ F/\l= [(0,v1),(1,I a),(2,v3)]/\Rel c b2 G_) ?_ ?_
 ·refine RA a<|va v3<|vx (ln 3 cw x.m)<|Rq (a+(f.length:Int))<|wln<|RB v1<|Rt (a+(f.length:Int))<|bn h fun x1 s3 h=>cl (sK k2 R j (w64 (a+(f.length:Int))) s.m s3) ?_;rintro i5 w2 b5 ⟨l0,rfl⟩;refine Ri (x1==3)<|RF h (fun t3 h=>?_) (fun t3 h=>?_)
  ·refine Rv v1<|Rt (a+(f.length:Int))<|va (.agg #[I 0,Y])<|bn h fun s4 u3 h=>cl (pO l0 R.m j (w64 (a+(f.length:Int))) (⟨0,([]:List Int)⟩:aa) s.m (Sl.nl _ _) u3) ?_;rintro j5 x2 c5 ⟨e2,l2,o2,rfl⟩;refine wln ?_;cases h;exact jn x2 ⟨e2,l2,rfl,o2⟩
  refine RG ?_;cases h;exact jn w2 ⟨d2,l0,rfl,R.m⟩
 rintro e_ w_ ⟨Z,y4,_,rfl,y3,rfl,f2,m2,rfl,q2⟩;refine W.seq<|RB v3<|vx (ln 3 cw x.m)<|Ro 0<|wln<|W.block<|bn d fun n4 v0 D=>lp v0 (fun b=>Jn Z fun c l=>∃G_,Own c G_ F/\l= [(0,v1),(1,I a),(69,v3),(70,I (f.length:Int)),(71,I b.1)]/\Rel c b.2 G_) (fun h0 ex e w=>ex= .exit 1/\(Jn Z fun c l=>∃G_,Own c G_ F/\l= []/\Rel c h0 G_) e w) ?_ ?_ ?_
 ·clear D v0;intro b k5 y2 z3 d;revert y2 z3;rintro e_ w_ ⟨g1,f4,_,rfl,s1,rfl,x0,E,rfl,P⟩;refine sr<|Rj (b.1<(f.length:Int))<|Rx<|cn d (fun k1 d=>?_) (fun k1 d=>?_)
  ·refine RG<|RM<|RA b.1<|bn d fun z a0 d=>?_;obtain ⟨b4,m1,u1⟩:=Sl.at (x.mono (d0.trans (w0.trans (x3.trans (y3.trans s1))))) (aP a0);obtain ⟨o4,rfl,u⟩:=m1;refine vx (ix cw x.m a0)<|vx (lN 61 u1)<|me (al 61 [I 0,Y] E) ?_;rintro p4 d4 t1 ⟨c4,rfl,a1⟩;refine Ro b.1 ?_;obtain ⟨S,T,U,rfl⟩:=((u.mono t1)).form;refine md (sA 61 [I z.Kind,.slice S T U] 0 a1 ⟨rfl,u.m.one,trivial⟩) ?_;rintro e4 k4 M;refine wln<|Rv v1<|Ro a<|Ro b.1<|Rt (a+b.1)<|vx (leN 61 0 [I z.Kind,.slice S T U] (M.on 0 rfl))<|bn d fun t4 n1 d=>cl (pO M P.m j (w64 (a+b.1)) z s.m u.m n1) ?_;rintro q4 h1 l4 ⟨y0,b1,e1,rfl⟩;refine WL.nil<|RH<|W.region<|Rq (b.1+1)<|WL.nil ?_;cases d;refine ⟨_,rfl,?_⟩;have c1:=b1.sD 1 [];exact jn h1 ⟨y0,c1,rfl,e1⟩
  refine W.exit<|thx ?_;cases d;exact ⟨_,rfl,rfl,jn g1 ⟨x0,E,rfl,P⟩⟩
 ·exact jn Z ⟨f2,m2,rfl,q2⟩
 rintro _ e_ w_ ⟨rfl,i1,g4,_,rfl,m4,rfl,z0,d1,rfl,f1⟩;refine RJ<|RB (.nilIface)<|RD ?_;cases D;exact Rz i1 ⟨.nilIface,z0,d1,f1,rfl,rfl⟩
def ft (sg:Sto) (p0:Option Nat) (p1:Bool):Option Sto:=
 if (!p0.isNone)=true then
 (p0).bind fun b=>
 (sg.row_Row[b]?).bind fun c=>
 (sg.set_row_Row b (⟨c.cells,p1⟩:bm)).bind fun a=>
 some a
 else
 some sg
theorem ns (j:Own c0 G F) (g:Rel c0 sg G) (h:Option Nat) (a:Bool){r:Sto}(s:Pt 0 c0 v1 h) (H:ft sg h a=some r): RU 209 #[v1,B a] c0 fun c v=>∃G_:Gm,Own c G_ F/\Rel c r G_/\v= .tuple #[]:=by
 unfold ft at H;refine en func209 rfl rfl<|RB v1<|vr (B (!h.isNone)) (by rcases (s).cs with ⟨d,e⟩|⟨P,d,e⟩ <;> (subst d; rw [e]; kernel_rfl))<|RF H (fun z H=>?_) (fun z H=>?_)
 ·refine Rv v1<|Ri a<|bn H fun N A H=>?_;obtain ⟨b,rfl,t⟩:=(s).get A;refine va (Q b)<|Rs b 1<|bn H fun u D H=>?_;obtain ⟨v8,y,p,o⟩:=Rel.open_row_Row g D t;refine md (gC 4 1 (B a) [v8,B a] 0 j p ⟨rfl,trivial⟩) ?_;rintro n f k;refine bn H fun x q H=>?_;obtain ⟨i,l,m,M,E⟩:=Rel.put_row_Row k (g.mono f) (E':=[(Eb b 175 [v8,B a]),es true aw v8 61 y u.cells]) q ⟨b,v8,y,(tm t),rfl,(o.mono f)⟩;refine WL.nil ?_;cases H;exact RN n ⟨i,l,m,rfl⟩
 refine W.skip ?_;cases H;exact RN c0 ⟨G,j,g,rfl⟩
def jN (sg:Sto) (p0:Option Nat):Option Bool:=
 (bw (!p0.isNone) ((p0).bind fun c=>
 (sg.row_Row[c]?).bind fun a=>
 some a.wrap)).bind fun b=>
 some b
theorem yn (h:Own c0 G F) (q:Rel c0 sg G) (e:Option Nat){r:Bool}(o:Pt 0 c0 v1 e) (H:jN sg e=some r): RU 62 #[v1] c0 fun c v=>Own c G F/\v=B r:=by
 unfold jN at H;refine en func62 rfl rfl<|Ru false<|Rx<|bn H fun m p H=>W.join (Jn c0 fun c l=>Own c G F/\l= [(2,B m)]) ?_ ?_
 ·clear H;refine Rv v1<|vr (B (!e.isNone)) (by rcases (o).cs with ⟨f,g⟩|⟨E,f,g⟩ <;> (subst f; rw [g]; kernel_rfl)) ?_;rcases bo (!e.isNone) with b|b
  ·have a:=anT b p;refine vb b<|wa v1<|wn<|bn a fun z t a=>?_;obtain ⟨j,rfl,s⟩:=(o).get t;refine va (Q j)<|wa (Qo j 1)<|wn<|bn a fun d u a=>?_;obtain ⟨v10,D,n,y⟩:=Rel.open_row_Row q u s;refine vx (le1 1 u_4 (h.gon n 0 rfl)) ?_;cases a;exact Rk d.wrap<|Ry c0 ⟨h,rfl⟩
  obtain rfl:=anF b p;exact vb b<|pz<|pz<|Rk false<|Ry c0 ⟨h,rfl⟩
 rintro M N ⟨k,x,_,rfl,A,rfl,i,rfl⟩;refine nrm<|W.ret ?_;cases H;exact Rz k ⟨i,rfl⟩
end Go.Proofs.YtkgjnbiiiifoaaaGreatDoor
