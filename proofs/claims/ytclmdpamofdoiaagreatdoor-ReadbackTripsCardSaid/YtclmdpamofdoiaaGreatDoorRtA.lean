/- Parts of the proofs of ReadbackTrips: the walk through the code, and plain Lean. No condition. -/
import Derived.WalkKit
import Derived.KernelRfl
import Derived.TacticsIn
import Derived.LoopNIn
import Derived.OrdersIn
import Derived.Laws.BytesString
import Derived.Laws.Concat
import Derived.Laws.Strings
import Derived.Laws.Strings2
import Derived.Laws.Strings3
import Derived.Laws.Slices
import Derived.Lib.ConvBytes
import Derived.Test.YtclmdpamofdoiaaGreatDoorProg
import Derived.RangeFuncSeq
import Derived.RangeFuncRecord
import Derived.RangeFuncLeaves
set_option linter.unusedVariables false
set_option linter.unusedSimpArgs false
abbrev dj:=@Go.Addr.add_lit
abbrev xF:=@Array.empty_append
abbrev DZ:=@Array.ext'
abbrev co:=@Array.getD_eq_getD_getElem?
abbrev Hn:=@Array.getElem?_eq_none
abbrev Hr:=@Array.getElem?_modify
abbrev IA:=@Array.length_toList
abbrev Jo:=@Array.toList_map
abbrev Ix:=@BitVec.ofInt_natCast
abbrev I3:=@BitVec.toNat_ofNat
abbrev tZ:=@Bool.and_eq_false_iff
abbrev av:=@Bool.and_eq_true
abbrev DY:=@Bool.and_false
abbrev FA:=@Bool.and_true
abbrev rm:=@Bool.eq_false_iff
abbrev ce:=@Bool.eq_iff_iff
abbrev jk:=@Bool.false_and
abbrev aj:=@Bool.false_eq_true
abbrev jP:=@Bool.false_or
abbrev Af:=@Bool.not_eq_true
abbrev dq:=@Bool.not_eq_true'
abbrev eX:=@Bool.not_false
abbrev cW:=@Bool.not_true
abbrev vI:=@Bool.or_eq_false_iff
abbrev aE:=@Bool.or_eq_true
abbrev dN:=@Bool.true_and
abbrev pi:=@Go.ByteArray.toList_eq
abbrev DX:=@Eq.trans
abbrev FR:=@Go.WideShapes.add_plain
abbrev Jc:=@Iff.rfl
abbrev DW:=@Int.fdiv_eq_ediv_of_nonneg
abbrev AZ:=@Int.le_refl
abbrev I0:=@Int.natCast_nonneg
abbrev pP:=@Int.ofNat_lt
abbrev qy:=@Int.tdiv_eq_ediv_of_nonneg
abbrev fX:=@Int.tmod_eq_emod_of_nonneg
abbrev bR:=@Int.toNat_natCast
abbrev ph:=@Int.toNat_of_nonneg
abbrev Ae:=@Go.IntKind.wrap_i64
abbrev sK:=@List.all_eq_true
abbrev Jb:=@List.any_eq_false
abbrev Ad:=@List.any_eq_true
abbrev aC:=@List.append_assoc
abbrev Jl:=@List.append_inj'
abbrev Hm:=@List.append_inj_right'
abbrev dI:=@List.append_nil
abbrev B7:=@List.cons.injEq
abbrev cK:=@List.cons_append
abbrev Jk:=@List.cons_ne_nil
abbrev Hq:=@List.contains_iff_mem
abbrev gU:=@List.drop_append_of_le_length
abbrev da:=@List.drop_drop
abbrev qR:=@List.drop_eq_getElem_cons
abbrev jj:=@List.drop_left
abbrev Hl:=@List.drop_of_length_le
abbrev fW:=@List.drop_take
abbrev ns:=@List.drop_zero
abbrev cf:=@List.eq_nil_of_length_eq_zero
abbrev Jj:=@List.ext_getElem
abbrev bQ:=@List.ext_getElem?
abbrev vY:=@List.flatMap_append
abbrev nq:=@List.flatMap_cons
abbrev my:=@List.flatten_append
abbrev fV:=@List.flatten_cons
abbrev Ji:=@List.flatten_nil
abbrev lu:=@List.foldl_append
abbrev tL:=@List.foldl_cons
abbrev an:=@List.getD_eq_getElem?_getD
abbrev fp:=@List.getElem?_append
abbrev ax:=@List.getElem?_append_left
abbrev aI:=@List.getElem?_append_right
abbrev iz:=@List.getElem?_cons_succ
abbrev FQ:=@List.getElem?_cons_zero
abbrev bO:=@List.getElem?_drop
abbrev af:=@List.getElem?_eq_getElem
abbrev aQ:=@List.getElem?_eq_none
abbrev bK:=@List.getElem?_map
abbrev di:=@List.getElem?_range
abbrev Iv:=@List.getElem?_range'
abbrev fm:=@List.getElem?_replicate
abbrev lq:=@List.getElem?_set
abbrev aR:=@List.getElem?_set_ne
abbrev bi:=@List.getElem?_set_self
abbrev aO:=@List.getElem?_take
abbrev bJ:=@List.getElem?_toArray
abbrev Hk:=@List.getElem_cons_succ
abbrev Hj:=@List.getElem_cons_zero
abbrev Ja:=@List.getElem_drop
abbrev dM:=@List.getElem_map
abbrev aB:=@List.getElem_mem
abbrev xC:=@List.getElem_range
abbrev iO:=@List.getElem_replicate
abbrev Jh:=@List.getElem_set
abbrev zg:=@List.getElem_take
abbrev Ju:=@List.headD_cons
abbrev I9:=@List.isEmpty_cons
abbrev ai:=@List.length_append
abbrev aA:=@List.length_cons
abbrev be:=@List.length_drop
abbrev tY:=@List.length_filter_le
abbrev bZ:=@List.length_map
abbrev aH:=@List.length_nil
abbrev rk:=@List.length_range
abbrev dR:=@List.length_replicate
abbrev bY:=@List.length_set
abbrev Hp:=@List.length_singleton
abbrev ay:=@List.length_take
abbrev bd:=@List.map_append
abbrev cV:=@List.map_congr_left
abbrev eV:=@List.map_cons
abbrev Jt:=@List.map_const'
abbrev Hi:=@List.map_map
abbrev pO:=@List.map_nil
abbrev kG:=@List.map_singleton
abbrev Js:=@List.mem_append
abbrev fk:=@List.mem_append_left
abbrev tX:=@List.mem_append_right
abbrev iP:=@List.mem_cons
abbrev eq:=@List.mem_cons_of_mem
abbrev ep:=@List.mem_cons_self
abbrev jE:=@List.mem_of_mem_drop
abbrev gS:=@List.mem_of_mem_take
abbrev qQ:=@List.mem_or_eq_of_mem_set
abbrev zf:=@List.mem_range'_1
abbrev bm:=@List.nil_append
abbrev I8:=@List.nodup_range'
abbrev fj:=@List.not_mem_nil
abbrev IX:=@List.range'_concat
abbrev oU:=@List.range_succ
abbrev vX:=@List.replicate_succ
abbrev Iu:=@List.replicate_succ'
abbrev I7:=@List.reverse_cons
abbrev It:=@List.reverse_reverse
abbrev lg:=@List.set_append_right
abbrev qx:=@List.set_cons_zero
abbrev tW:=@List.set_getElem_self
abbrev tV:=@List.singleton_append
abbrev rh:=@List.size_toArray
abbrev mT:=@List.sum_append
abbrev kX:=@List.sum_cons
abbrev Ac:=@List.take_append
abbrev lf:=@List.take_append_drop
abbrev dA:=@List.take_append_of_le_length
abbrev DU:=@List.take_left
abbrev cy:=@List.take_length
abbrev aK:=@List.take_of_length_le
abbrev Iz:=@List.take_succ_cons
abbrev aq:=@List.take_succ_eq_append_getElem
abbrev ji:=@List.take_take
abbrev eU:=@List.take_zero
abbrev xB:=@List.zip_cons_cons
abbrev rL:=@Nat.add_assoc
abbrev fi:=@Nat.add_mul
abbrev qw:=@Nat.add_sub_cancel
abbrev np:=@Nat.add_zero
abbrev nE:=@Nat.ble_eq_true_of_le
abbrev nC:=@Nat.eq_of_beq_eq_true
abbrev jh:=@Nat.eq_zero_or_pos
abbrev bp:=@Nat.le_of_ble_eq_true
abbrev tu:=@Nat.le_of_lt
abbrev aw:=@Nat.le_refl
abbrev rf:=@Nat.le_succ
abbrev nn:=@Nat.le_succ_of_le
abbrev cx:=@Nat.le_trans
abbrev jg:=@Nat.lt_of_lt_of_le
abbrev aP:=@Nat.lt_or_ge
abbrev IW:=@Nat.lt_or_gt_of_ne
abbrev I6:=@Nat.lt_succ_of_lt
abbrev Jg:=@Nat.lt_succ_self
abbrev AY:=@Nat.min_def
abbrev cq:=@Nat.min_eq_left
abbrev Ab:=@Nat.mod_eq_of_lt
abbrev DT:=@Nat.mod_lt
abbrev mb:=@Nat.mul_le_mul_right
abbrev Is:=@Nat.mul_one
abbrev tK:=@Nat.not_lt_zero
abbrev mX:=@Nat.one_mul
abbrev mh:=@Nat.sub_self
abbrev tq:=@Nat.sub_zero
abbrev aX:=@Nat.succ_pos
abbrev fU:=@Nat.zero_add
abbrev cZ:=@Nat.zero_le
abbrev pN:=@Nat.zero_mul
abbrev rd:=@Ne.symm
abbrev Fy:=@Go.Oper.semAt_eq
abbrev I5:=@Go.Oper.uponIn_value
abbrev ze:=@Option.bind_assoc
abbrev FP:=@Option.bind_eq_some_iff
abbrev Jf:=@Option.bind_some
abbrev Je:=@Option.getD_some
abbrev bI:=@Option.isNone_some
abbrev Hg:=@Option.map_eq_some_iff
abbrev Jr:=@Option.map_none
abbrev dH:=@Option.map_some
abbrev bb:=@Option.some.inj
abbrev aM:=@Option.some.injEq
abbrev fM:=@Prod.mk.injEq
abbrev dY:=@Go.RowKit.Below.heap_alloc
abbrev tn:=@Go.Sem.run_bind
abbrev zd:=@Go.Sem.run_pure
abbrev rK:=@Sum.inl.injEq
abbrev ma:=@Go.World.cell?_of_block
abbrev IV:=@Go.World.keptBut_mono
abbrev Jq:=@Go.World.var?_cell
abbrev qv:=@and_true
abbrev eG:=@beq_eq_false_iff_ne
abbrev aN:=@beq_iff_eq
abbrev sH:=@beq_self_eq_true
abbrev lW:=@bne_iff_ne
abbrev G7:=@Go.callsIn_wide
abbrev fh:=@Go.cell_of_row
abbrev IQ:=@cond_false
abbrev mN:=@congrArg
abbrev Jd:=@decide_eq_decide
abbrev kg:=@decide_eq_false_iff_not
abbrev vh:=@decide_eq_true
abbrev ak:=@decide_eq_true_eq
abbrev lL:=@decide_true
abbrev vK:=@dif_neg
abbrev vJ:=@dif_pos
abbrev IL:=@Go.execOp_put
abbrev zK:=@ge_iff_le
abbrev HV:=@Go.getD_set_ne
abbrev AK:=@Go.grownCap_ge
abbrev qa:=@Go.grownCap_le_maxLen
abbrev Dk:=@Go.growslice_fits
abbrev aU:=@if_false
abbrev ab:=@if_neg
abbrev ae:=@if_pos
abbrev bw:=@if_true
abbrev uO:=@ne_eq
abbrev yq:=@not_and
abbrev qU:=@not_false_eq_true
abbrev IJ:=@not_or
abbrev yo:=@of_decide_eq_true
abbrev oe:=@or_false
abbrev IH:=@Go.ready_mono
abbrev Jp:=@Go.run_append_grow
abbrev Bi:=@Go.run_append_room
abbrev I4:=@Go.run_bytesToString
abbrev Iy:=@Go.run_firstCells_some
abbrev IC:=@Go.run_loadCells_list
abbrev xW:=@Go.run_storeCells_at
abbrev bH:=@Go.run_underlying
abbrev Ao:=@Go.setRow_heap
abbrev Ga:=@Go.setRow_other
abbrev uw:=@true_and
abbrev mc:=@Go.wpIn_mono
abbrev uu:=@Go.wpListIn_plain
namespace Go.Lt
structure Fr where
 n:Nat
 df:List Deferred
 ro:Option Nat
instance:CoeOut Fr Nat:=⟨Fr.n⟩
def fen (r:Option Nat):Fence:={ Fence.wide with round:=r}
def act (n:Fr) (e:Nat→Value):Act:={ tmps:=((List.range n.n).map e).toArray,defers:=n.df}
def ev (n:Nat) (e:Nat→Value):Operand→Value
 | .tmp t=>cond (Nat.ble (t+1) n) (e t) undef
 | .const v=>v
 | .global g=> .pointer (some ⟨g,0,none⟩)
 | .func f=> .func (.func f) #[] #[]
def up (e:Nat→Value) (d:Nat) (v:Value):Nat→Value:=fun t=>cond (Nat.beq t d) v (e t)
def upO (e:Nat→Value):Option Nat→Value→(Nat→Value)
 | some d,v=>up e d v
 | none,_=>e
theorem lZ (n:Fr) (e:Nat→Value):(act n e).eval=ev n e:=by
 funext x
 cases x with
 | tmp t=>
  simp only [Act.eval,act,ev];by_cases h:t < n.n
  ·have:Nat.ble (t+1) n.n=true:=nE h;simp [h,this]
  ·have:Nat.ble (t+1) n.n=false:=by
    cases hb:Nat.ble (t+1) n.n with
    | false=>rfl
    | true=>exact absurd (bp hb) h
   simp [h,this]
 | const v=>rfl
 | global g=>rfl
 | func f=>rfl
theorem oT (n:Fr) (e:Nat→Value) (d:Option Nat) (v:Value):(act n e).put d v=act n (upO e d v):=by
 cases d with
 | none=>rfl
 | some d=>
  simp only [Act.put,act,upO]
  congr 1
  apply Array.ext
  ·simp
  ·intro i h1 h2;simp only [rh,bZ,rk,Array.size_setIfInBounds] at h1 h2;by_cases hi:d=i
   ·subst hi; simp [up]
   ·have:Nat.beq i d=false:=by
     cases hb:Nat.beq i d with
     | false=>rfl
     | true=>exact absurd (nC hb).symm hi
    simp [up,hi,this]
def Hv:Exit→Prop
 | .panic _=>False
 | .outgrown=>False
 | _=>True
def yu (n:Fr) (Q:Exit→(Nat→Value)→World→Prop):Exit→Act→World→Prop:=fun x a w=>Hv x∧∃e,a=act n e∧Q x e w
def W (P:Program) (n:Fr) (c:Code) (Q:Exit→(Nat→Value)→World→Prop) (e:Nat→Value) (w:World):Prop:=c.wpIn (fen n.ro) 0 P (yu n Q) (act n e) w
def pR (K:(Nat→Value)→World→Prop) (Q:Exit→(Nat→Value)→World→Prop):Exit→(Nat→Value)→World→Prop
 | .normal,e,w=>K e w
 | x,e,w=>Q x e w
def lX (id:Nat) (Q:Exit→(Nat→Value)→World→Prop):Exit→(Nat→Value)→World→Prop
 | .exit i,e,w=>cond (Nat.beq i id) (Q .normal e w) (Q (.exit i) e w)
 | x,e,w=>Q x e w
section
variable {P:Program} {n:Fr} {Q Q':Exit→(Nat→Value)→World→Prop} {e:Nat→Value} {w:World} {a b:Code}
theorem W.mono (h:W P n a Q e w) (hq:∀x e w,Q x e w→Q' x e w):W P n a Q' e w:=
 mc h fun x _ w ⟨ht,e,ha,hQ⟩=>⟨ht,e,ha,hq x e w hQ⟩
theorem W.seq (h:W P n a (pR (W P n b Q) Q) e w):W P n (a.seq b) Q e w:=
 wpIn_seq (mc h fun x a' w' ⟨ht,e',ha,hQ⟩=>by
  subst ha
  cases x with
  | normal=>exact hQ
  | _=>exact ⟨ht,e',rfl,hQ⟩)
theorem W.seqJ (J:(Nat→Value)→World→Prop) (h:W P n a (pR J Q) e w) (hJ:∀e w,J e w→W P n b Q e w):W P n (a.seq b) Q e w:=
 W.seq (W.mono h fun x e w hx=>by cases x <;> first | exact hJ _ _ hx | exact hx)
theorem W.skip (h:Q .normal e w):W P n .skip Q e w:=wpIn_skip ⟨trivial,e,rfl,h⟩
theorem W.ret (h:Q .ret e w):W P n .ret Q e w:=wpIn_ret ⟨trivial,e,rfl,h⟩
theorem W.exit {id:Nat} (h:Q (.exit id) e w):W P n (.exit id) Q e w:=wpIn_exit ⟨trivial,e,rfl,h⟩
theorem W.block {id:Nat} (h:W P n a (lX id Q) e w):W P n (.block id a) Q e w:=
 wpIn_block (mc h fun x a' w' ⟨ht,e',ha,hQ⟩=>by
  subst ha
  cases x with
  | exit i=>
   simp only [Exit.inBlock];by_cases hi:i=id
   ·subst hi;rw [ae rfl];exact ⟨trivial,e',rfl,by simpa [lX] using hQ⟩
   ·rw [ab hi];have:Nat.beq i id=false:=by
     cases hb:Nat.beq i id with
     | false=>rfl
     | true=>exact absurd (nC hb) hi
    exact ⟨trivial,e',rfl,by simpa [lX,this] using hQ⟩
  | _=>exact ⟨ht,e',rfl,hQ⟩)
theorem W.cond {c:Operand} {t:Bool} (hc:ev n e c= .bool t) (ht:t=true→W P n a Q e w) (hf:t=false→W P n b Q e w):W P n (.cond c a b) Q e w:=
 wpIn_cond_split (by rw [lZ]; exact hc) ht hf
def WL (P:Program) (ops:Array Oper) (n:Fr) (Q:Exit→(Nat→Value)→World→Prop) (l:List Oper) (e:Nat→Value) (w:World):Prop:=
 wpListIn (fen n.ro) 0 P ops (yu n Q) l (act n e) w
theorem W.region {id:Nat} {l:List Oper} (h:WL P l.toArray n Q l e w):W P n (.region id l.toArray false) Q e w:=wpIn_region_lit h
variable {ops:Array Oper} {o:Oper} {rest:List Oper}
theorem WL.nil (h:Q .normal e w):WL P ops n Q [] e w:=⟨trivial,e,rfl,h⟩
theorem pV {r:Option Nat} {ρ:Operand→Value} {w w':World} {x:Next} (h:(execOp ρ o).run P w= .ok x w') (hx:∀d,x≠ .defer d):(o.semAt r ρ).run P w= .ok x w':=by
 by_cases hd:∀c,o.op≠ .defer c
 ·rw [Fy r ρ o hd]; exact h
 ·obtain ⟨c,hc⟩:=Classical.not_forall.1 hd;have hc:=Classical.not_not.1 hc;unfold execOp at h;rw [hc] at h;simp only [tn,zd] at h
  cases hr:(resolve ρ c o.type).run P w with
  | ok d w1=>rw [hr] at h; simp only [Result.andThen,Result.ok.injEq] at h; exact absurd h.1.symm (hx d)
  | halt h1 w1=>rw [hr] at h; simp [Result.andThen] at h
theorem tF {r:Option Nat} {k:Nat} {f:FuncId} {args:Array Value} {w:World} {R:Ending→World→Prop} (h:Calls P f args w R):CallsIn (fen r) k P f args w R:=(G7 (n:=k)).2 h
theorem CW {v:Value} {w':World} {K:Act→World→Prop} {Qa:Exit→Act→World→Prop} (hr:(execOp (ev n e) o).run P w= .ok (.value v) w') (h:K (act n (upO e o.dst v)) w'):o.wpIn (fen n.ro) 0 P (act n e) w K Qa:=by
 refine ⟨fun _ _=>trivial,?_⟩;rw [lZ,pV hr (by simp),I5,oT];exact h
theorem FI {w':World} {K:Act→World→Prop} {Qa:Exit→Act→World→Prop} (hr:(execOp (ev n e) o).run P w= .ok .skip w') (h:K (act n (upO e o.dst undef)) w'):o.wpIn (fen n.ro) 0 P (act n e) w K Qa:=by
 refine ⟨fun _ _=>trivial,?_⟩;rw [lZ,pV hr (by simp),Oper.uponIn_skip,oT];exact h
theorem AB {f:FuncId} {args:Array Value} {w':World} {K:Act→World→Prop} {Qa:Exit→Act→World→Prop} (hr:(execOp (ev n e) o).run P w= .ok (.enter f args) w')
  (hc:Calls P f args w' fun x w''=>∃v,x= .returned v∧K (act n (upO e o.dst v)) w''):o.wpIn (fen n.ro) 0 P (act n e) w K Qa:=by
 refine ⟨fun _ _=>trivial,?_⟩;rw [lZ,pV hr (by simp),Oper.uponIn_enter];refine ⟨fun h=>(by cases h),(tF hc).mono ?_⟩;rintro x w'' ⟨v,rfl,h⟩;simp only [oT];exact h
theorem WL.val {v:Value} {w':World} (hg:o.guard=none) (hr:(execOp (ev n e) o).run P w= .ok (.value v) w') (h:WL P ops n Q rest (upO e o.dst v) w'):WL P ops n Q (o :: rest) e w:=
 uu hg fun K hK=>CW hr (hK _ _ h)
theorem WL.do_ {w':World} (hg:o.guard=none) (hr:(execOp (ev n e) o).run P w= .ok .skip w') (h:WL P ops n Q rest (upO e o.dst undef) w'):WL P ops n Q (o :: rest) e w:=
 uu hg fun K hK=>FI hr (hK _ _ h)
theorem WL.call {f:FuncId} {args:Array Value} {w':World} (hg:o.guard=none) (hr:(execOp (ev n e) o).run P w= .ok (.enter f args) w')
  (hc:Calls P f args w' fun x w''=>∃v,x= .returned v∧WL P ops n Q rest (upO e o.dst v) w''):WL P ops n Q (o :: rest) e w:=
 uu hg fun K hK=>AB hr (hc.mono fun x w'' ⟨v,hx,h⟩=>⟨v,hx,hK _ _ h⟩)
def yl (ops:Array Oper) (n:Nat) (e:Nat→Value) (j:Nat):Option Bool:=
 match (ops[j]?).bind Oper.dst with
 | some d=>match ev n e (.tmp d) with
  | .bool b=>some b
  | _=>none
 | none=>none
def iD (ops:Array Oper) (n:Nat) (e:Nat→Value) (o:Oper):Bool:=
 match o.guard with
 | none=>true
 | some (j,want)=>yl ops n e j==some want
theorem nR (ops:Array Oper) (n:Fr) (e:Nat→Value) (o:Oper) (h:∀d,(∃j:Nat,(ops[j]?).bind Oper.dst=some d)→d < n.n):
  Region.wanted o (yielded ops (act n e).tmps)=iD ops n e o:=by
 unfold Region.wanted iD
 cases hg:o.guard with
 | none=>rfl
 | some jw=>
  obtain ⟨j,want⟩:=jw;simp only
  congr 1
  unfold yielded yl
  cases hd:(ops[j]?).bind Oper.dst with
  | none=>rfl
  | some d=>
   have hdn:=h d ⟨j,hd⟩;have:Nat.ble (d+1) n.n=true:=nE hdn;simp only [act,ev,Jf,this,cond_true];simp only [bJ,bK,di hdn,dH]
   cases e d <;> rfl
def fb (n:Nat):List Oper→Bool
 | []=>true
 | o :: l=>(match o.dst with | some d=>Nat.ble (d+1) n | none=>true) && fb n l
theorem kp {n:Nat} {l:List Oper} (h:fb n l=true) (d:Nat) (hd:∃j:Nat,(l.toArray[j]?).bind Oper.dst=some d):d < n:=by
 obtain ⟨j,hj⟩:=hd;simp only [bJ] at hj
 induction l generalizing j with
 | nil=>simp at hj
 | cons o l ih=>
  simp only [fb,av] at h
  cases j with
  | zero=>
   simp only [FQ,Jf] at hj;rw [hj] at h;exact bp h.1
  | succ j=>exact ih h.2 j (by simpa using hj)
theorem WL.pass {l:List Oper} (hs:fb n l=true) (hw:iD l.toArray n e o=false) (h:WL P l.toArray n Q rest (upO e o.dst undef) w):WL P l.toArray n Q (o :: rest) e w:=by
 have hww:Region.wanted o (yielded l.toArray (act n e).tmps)=false:=by rw [nR _ _ _ _ (kp hs)]; exact hw
 unfold WL wpListIn;rw [ab (by rw [hww]; simp),oT];exact ⟨fun _ _=>trivial,h⟩
theorem WL.want {l:List Oper} (hs:fb n l=true) (hw:iD l.toArray n e o=true) (h:WL P l.toArray n Q ({ o with guard:=none} :: rest) e w):WL P l.toArray n Q (o :: rest) e w:=by
 have hww:Region.wanted o (yielded l.toArray (act n e).tmps)=true:=by rw [nR _ _ _ _ (kp hs)]; exact hw
 have hg:Region.wanted ({ o with guard:=none}:Oper) (yielded l.toArray (act n e).tmps)=true:=rfl;unfold WL wpListIn at h⊢;rw [ae hww];rw [ae hg] at h;exact h
theorem W.join (J:(Nat→Value)→World→Prop) (h:W P n a (pR J (fun _ _ _=>False)) e w) (hJ:∀e w,J e w→Q .normal e w):W P n a Q e w:=
 W.mono h fun x e w hx=>by cases x <;> first | exact hJ _ _ hx | exact hx.elim
theorem nrm {K:(Nat→Value)→World→Prop} (h:K e w):pR K Q .normal e w:=h
theorem thx {K:(Nat→Value)→World→Prop} {i:Nat} (h:Q (.exit i) e w):pR K Q (.exit i) e w:=h
theorem thr {K:(Nat→Value)→World→Prop} (h:Q .ret e w):pR K Q .ret e w:=h
theorem bkn {i:Nat} (h:Q .normal e w):lX i Q .normal e w:=h
theorem bkr {i:Nat} (h:Q .ret e w):lX i Q .ret e w:=h
theorem bke {i:Nat} (h:Q .normal e w):lX i Q (.exit i) e w:=by
 have:Nat.beq i i=true:=Nat.beq_refl i;simpa [lX,this] using h
theorem bko {i j:Nat} (hij:Nat.beq j i=false) (h:Q (.exit j) e w):lX i Q (.exit j) e w:=by simpa [lX,hij] using h
theorem WL.valb {t b:Bool} {w':World} (ht:t=b) (hg:o.guard=none) (hr:(execOp (ev n e) o).run P w= .ok (.value (.bool t)) w') (h:WL P ops n Q rest (upO e o.dst (.bool b)) w'):WL P ops n Q (o :: rest) e w:=by
 subst ht;exact WL.val hg hr h
theorem WL.val0 {v:Value} (hg:o.guard=none) (hr:(execOp (ev n e) o).run P w= .ok (.value v) w) (h:WL P ops n Q rest (upO e o.dst v) w):WL P ops n Q (o :: rest) e w:=WL.val hg hr h
theorem WL.valb0 {t b:Bool} (ht:t=b) (hg:o.guard=none) (hr:(execOp (ev n e) o).run P w= .ok (.value (.bool t)) w) (h:WL P ops n Q rest (upO e o.dst (.bool b)) w):WL P ops n Q (o :: rest) e w:=WL.valb ht hg hr h
def cJ {σ τ:Type}:Nat→(σ→Option (σ ⊕ τ))→σ→Option τ
 | 0,_,_=>none
 | n+1,f,s=>(f s).bind fun x=>match x with
  | .inl s'=>cJ n f s'
  | .inr t=>some t
def lpQ {σ τ:Type} (F:σ→(Nat→Value)→World→Prop) (Out:τ→Exit→(Nat→Value)→World→Prop) (x:σ ⊕ τ):Exit→(Nat→Value)→World→Prop
 | .normal,e,w=>∃s,x= .inl s∧F s e w
 | ex,e,w=>∃t,x= .inr t∧Out t ex e w
theorem W.loop {σ τ:Type} {step:σ→Option (σ ⊕ τ)} (F:σ→(Nat→Value)→World→Prop) (Out:τ→Exit→(Nat→Value)→World→Prop)
  (hb:∀s x e w,step s=some x→F s e w→W P n a (lpQ F Out x) e w) {fuel:Nat} {s:σ} {t:τ} (H:cJ fuel step s=some t) (h0:F s e w)
  (hQ:∀x e w,Out t x e w→Q x e w):W P n (.loop a) Q e w:=by
 refine wpIn_loop_rounds fuel ?_
 induction fuel generalizing s e w with
 | zero=>cases H
 | succ k ih=>
  rw [roundsIn_succ];simp only [cJ] at H
  cases hs:step s with
  | none=>rw [hs] at H; cases H
  | some x=>
   rw [hs] at H;refine mc (hb s x e w hs h0) ?_;rintro y a' w' ⟨ht,e',rfl,hq⟩
   cases x with
   | inl s'=>
    cases y with
    | normal=>
     obtain ⟨s1,h1,h2⟩:=hq;cases h1;exact ih H h2
    | _=>obtain ⟨t1,h1,_⟩:=hq; cases h1
   | inr t'=>
    have:t'=t:=by simpa using H
    subst this
    cases y with
    | normal=>obtain ⟨s1,h1,_⟩:=hq; cases h1
    | _=>obtain ⟨t1,h1,h2⟩:=hq; cases h1; exact ⟨ht,e',rfl,hQ _ _ _ h2⟩
def ar:List Value→Nat→Value
 | [],_=>undef
 | v :: _,0=>v
 | _ :: l,t+1=>ar l t
def nk (P:Program) (fn:Func) (n:Fr) (R:Ending→World→Prop):Exit→(Nat→Value)→World→Prop
 | .normal,e,w=>∃v,(results fn (act n e).tmps).run P w= .ok v w∧R (.returned v) w
 | .ret,e,w=>∃v,(results fn (act n e).tmps).run P w= .ok v w∧R (.returned v) w
 | _,_,_=>False
theorem DR (n:Nat) (l:List Value) (h:l.length≤n):act ⟨n,[],none⟩ (ar l)= { tmps:=l.toArray++Array.replicate (n - l.length) undef,defers:=[]}:=by
 unfold act
 congr 1
 apply DZ;apply Jj
 ·simp; omega
 ·intro i h1 h2;simp only [dM,xC,Array.toList_append,Array.toList_replicate];have key:∀(l:List Value) (i:Nat) (h:i < l.length),ar l i=l[i]:=by
   intro l
   induction l with
   | nil=>intro i h; simp at h
   | cons v l ih=>
    intro i h
    cases i with
    | zero=>rfl
    | succ i=>exact ih i (by simpa using h)
  have key2:∀(l:List Value) (i:Nat) (h:l.length≤i),ar l i=undef:=by
   intro l
   induction l with
   | nil=>intro i h; rfl
   | cons v l ih=>
    intro i h
    cases i with
    | zero=>simp at h
    | succ i=>exact ih i (by simpa using h)
  by_cases hi:i < l.length
  ·rw [List.getElem_append_left hi]; exact key l i hi
  ·rw [List.getElem_append_right (by omega)]; rw [key2 l i (by omega)]; simp
theorem enter {f:FuncId} {fn:Func} {code:Code} {n:Nat} {l:List Value} {w:World} {R:Ending→World→Prop} (hf:P.funcs[f]? = some fn) (hb:fn.body=some code) (hn:fn.ntmps=n)
  (hl:Nat.ble l.length n=true) (h:W P ⟨n,[],none⟩ code (nk P fn ⟨n,[],none⟩ R) (ar l) w):Calls P f l.toArray w R:=by
 subst hn;have hl:=bp hl;refine (G7 (n:=0)).1 (callsIn_of_wp hf hb trivial ?_);rw [rh,←DR _ l hl];refine mc h ?_;rintro x a w' ⟨_,e',rfl,hq⟩
 cases x <;> first | exact ⟨rfl,hq⟩ | exact hq.elim
theorem gI (n:Fr) (e:Nat→Value) (t:Nat):(act n e).tmps.getD t undef=ev n e (.tmp t):=by
 rw [←lZ]; rfl
theorem IF {fn:Func} {R:Ending→World→Prop} (hr:fn.results= #[]) (h:R (.returned (.tuple #[])) w):nk P fn n R .ret e w:=
 ⟨_,results_none hr _ _ _,h⟩
theorem IM {fn:Func} {R:Ending→World→Prop} (hr:fn.results= #[]) (h:R (.returned (.tuple #[])) w):nk P fn n R .normal e w:=
 ⟨_,results_none hr _ _ _,h⟩
theorem CD {fn:Func} {R:Ending→World→Prop} {t:Nat} {v:Value} (hr:fn.results= #[.tmp t]) (hv:ev n e (.tmp t)=v) (h:R (.returned v) w):nk P fn n R .ret e w:=
 ⟨_,results_tmp hr _ _ _,by rw [gI,hv]; exact h⟩
theorem IE {fn:Func} {R:Ending→World→Prop} {t u:Nat} {v v':Value} (hr:fn.results= #[.tmp t,.tmp u]) (hv:ev n e (.tmp t)=v) (hu:ev n e (.tmp u)=v') (h:R (.returned (.tuple #[v,v'])) w):nk P fn n R .ret e w:=
 ⟨_,results_tmp2 hr _ _ _,by rw [gI,gI,hv,hu]; exact h⟩
def ups (e:Nat→Value):List (Nat×Value)→(Nat→Value)
 | []=>e
 | (t,v) :: l=>up (ups e l) t v
def uZ (e:Nat→Value):List (Nat×Value)→Prop
 | []=>True
 | (t,v) :: l=>e t=v∧uZ e l
theorem D2 (e:Nat→Value) {t:Nat} {v:Value} (h:e t=v):up e t v=e:=by
 funext i
 unfold up;by_cases hb:Nat.beq i t=true
 ·rw [hb,nC hb]; exact h.symm
 ·simp [hb]
theorem xL:∀{l:List (Nat×Value)} {e:Nat→Value},uZ e l→e=ups e l
 | [],_,_=>rfl
 | (t,v) :: l,e,h=>by
  have:=xL (l:=l) h.2;rw [ups,←this];exact (D2 e h.1).symm
end
def w64 (n:Int):Int:=IntKind.i64.wrap n
def w32 (n:Int):Int:=IntKind.i32.wrap n
def aV (x y:Int):Int:=if y > x then y else x
def aL (x y:Int):Int:=if y < x then y else x
theorem bs {α β:Type} {x:Option α} {f:α→Option β} {r:β} (h:x.bind f=some r):∃a,x=some a∧f a=some r:=by
 cases x with
 | none=>cases h
 | some a=>exact ⟨a,rfl,h⟩
theorem it {α:Type} {b:Bool} {x y:Option α} {r:α} (hb:b=true) (h:(if b=true then x else y)=some r):x=some r:=by rw [ae hb] at h; exact h
theorem ie {α:Type} {b:Bool} {x y:Option α} {r:α} (hb:b=false) (h:(if b=true then x else y)=some r):y=some r:=by rw [ab (by simp [hb])] at h; exact h
def orE (t:Bool) (x:Option Bool):Option Bool:=if t=true then some true else x
def bT (t:Bool) (x:Option Bool):Option Bool:=if t=true then x else some false
theorem orT {t:Bool} {x:Option Bool} {d:Bool} (ht:t=true) (h:orE t x=some d):d=true:=by simp [orE,ht] at h; exact h
theorem orF {t:Bool} {x:Option Bool} {d:Bool} (ht:t=false) (h:orE t x=some d):x=some d:=by simpa [orE,ht] using h
theorem anT {t:Bool} {x:Option Bool} {d:Bool} (ht:t=true) (h:bT t x=some d):x=some d:=by simpa [bT,ht] using h
theorem anF {t:Bool} {x:Option Bool} {d:Bool} (ht:t=false) (h:bT t x=some d):d=false:=by simp [bT,ht] at h; exact h
end Go.Lt
namespace Go.Lt
structure Cx where
 w:World
 A:Nat→Nat→Prop
 t:Nat→Nat→Option Nat
structure Cx.le (c c':Cx):Prop where
 os:c'.w.os=c.w.os
 output:c'.w.output=c.w.output
 size:c.w.heap.size≤c'.w.heap.size
 cell:∀k o,k < c.w.heap.size→¬c.A k o→c'.w.cell? ⟨k,o,none⟩=c.w.cell? ⟨k,o,none⟩∧¬c'.A k o
 block:∀k,k < c.w.heap.size→(∀o,¬c.A k o)→c'.w.heap[k]? = c.w.heap[k]?
 frz:∀a,a.block < c.w.heap.size→¬c.A a.block a.off→c'.w.frozen? a=c.w.frozen? a
 t:∀g k b,c.t g k=some b→c'.t g k=some b
theorem Cx.le.refl (c:Cx):c.le c:=⟨rfl,rfl,aw _,fun _ _ _ h=>⟨rfl,h⟩,fun _ _ _=>rfl,fun _ _ _=>rfl,fun _ _ _ h=>h⟩
theorem Cx.le.trans {a b c:Cx} (h:a.le b) (k:b.le c):a.le c:=
 ⟨k.os.trans h.os,k.output.trans h.output,cx h.size k.size,fun i o hi hA=>by
  obtain ⟨h1,h2⟩:=h.cell i o hi hA;obtain ⟨k1,k2⟩:=k.cell i o (jg hi h.size) h2;exact ⟨k1.trans h1,k2⟩,fun i hi hA=>(k.block i (jg hi h.size) fun o=>(h.cell i o hi (hA o)).2).trans (h.block i hi hA),
  fun a ha hA=>(k.frz a (jg ha h.size) (h.cell _ _ ha hA).2).trans (h.frz a ha hA),fun g i b hb=>k.t g i b (h.t g i b hb)⟩
structure Cx.lw (c c':Cx):Prop where
 os:c'.w.os=c.w.os
 output:c'.w.output=c.w.output
 size:c.w.heap.size≤c'.w.heap.size
 cell:∀k o,k < c.w.heap.size→¬c.A k o→c'.w.cell? ⟨k,o,none⟩=c.w.cell? ⟨k,o,none⟩∧¬c'.A k o
 block:∀k vs T f,c.w.heap[k]? = some (.cells vs T f)→(∀o,¬c.A k o)→c'.w.heap[k]? = c.w.heap[k]?
 frz:∀a,a.block < c.w.heap.size→¬c.A a.block a.off→c'.w.frozen? a=c.w.frozen? a
 t:∀g k b,c.t g k=some b→c'.t g k=some b
theorem Cx.le.lw {c c':Cx} (h:c.le c'):c.lw c':=⟨h.os,h.output,h.size,h.cell,fun k _ _ _ hk hA=>h.block k (Array.getElem?_eq_some_iff.1 hk).1 hA,h.frz,h.t⟩
instance {c c':Cx}:Coe (c.le c') (c.lw c'):=⟨Cx.le.lw⟩
theorem Cx.lw.trans {a b c:Cx} (h:a.lw b) (k:b.lw c):a.lw c:=
 ⟨k.os.trans h.os,k.output.trans h.output,cx h.size k.size,fun i o hi hA=>by
  obtain ⟨h1,h2⟩:=h.cell i o hi hA;obtain ⟨k1,k2⟩:=k.cell i o (jg hi h.size) h2;exact ⟨k1.trans h1,k2⟩,fun i vs T f hi hA=>by
  have h1:=h.block i vs T f hi hA;exact (k.block i vs T f (h1.trans hi) fun o=>(h.cell i o (Array.getElem?_eq_some_iff.1 hi).1 (hA o)).2).trans h1,
  fun a ha hA=>(k.frz a (jg ha h.size) (h.cell _ _ ha hA).2).trans (h.frz a ha hA),fun g i b hb=>k.t g i b (h.t g i b hb)⟩
structure Cx.but (D:Nat→Prop) (c c':Cx):Prop where
 le:c.le c'
 t:c'.t=c.t
 same:∀k,k < c.w.heap.size→¬D k→c'.w.heap[k]? = c.w.heap[k]?∧∀o,c'.A k o↔c.A k o
def Gr (w w':World):Prop:=w.keptBut w' (fun _=>False)∧(∀a,a.block < w.heap.size→w'.frozen? a=w.frozen? a)∧w.heap.size≤w'.heap.size
theorem Gr.frame {w w':World} (h:Gr w w') (may:MemPlace→Prop):w.keptBut w' may:=IV (fun _ f=>f.elim) h.1
theorem Cx.le.grown {w:World} {c':Cx} (h:Cx.le ⟨w,fun _ _=>False,fun _ _=>none⟩ c'):Gr w c'.w:=
 ⟨⟨h.os,h.output,fun i hi=>by
  rw [h.block i hi fun _=>id];have:=World.keptBut_refl w fun _=>False;exact this.2.2 i hi⟩,fun a ha=>h.frz a ha id,h.size⟩
structure Im (c:Cx) (b o:Nat) (v:Value):Prop where
 lt:b < c.w.heap.size
 nA:¬c.A b o
 cell:c.w.cell? ⟨b,o,none⟩=some v
theorem Im.lw {c c':Cx} {b o:Nat} {v:Value} (h:Im c b o v) (k:c.lw c'):Im c' b o v:=by
 obtain ⟨h1,h2⟩:=k.cell b o h.lt h.nA;exact ⟨jg h.lt k.size,h2,h1.trans h.cell⟩
theorem Im.mono {c c':Cx} {b o:Nat} {v:Value} (h:Im c b o v) (k:c.le c'):Im c' b o v:=h.lw k.lw
structure Rp (α:Type) where
 size:Nat
 cells:Cx→List Value→α→Prop
 len:∀{c l x},cells c l x→l.length=size
 one:∀{c l x},cells c l x→∀v∈l,v.oneCell'=true
 mono:∀{c c' l x},c.lw c'→cells c l x→cells c' l x
def RI (k:IntKind):Rp Int where
 size:=1
 cells:=fun _ l n=>l= [.int k n]
 len:=fun h=>by simp [h]
 one:=fun h v hv=>by rw [h] at hv; simp at hv; subst hv; rfl
 mono:=fun _ h=>h
def RS:Rp ByteArray where
 size:=1
 cells:=fun _ l n=>l= [.string n]
 len:=fun h=>by simp [h]
 one:=fun h v hv=>by rw [h] at hv; simp at hv; subst hv; rfl
 mono:=fun _ h=>h
def Sl {α:Type} (R:Rp α) (c:Cx) (v:Value) (xs:List α):Prop:=
 ∃a cap,v= .slice a xs.length cap∧xs.length≤cap∧cap≤maxLen∧
  ∀i x,xs[i]? = some x→∃b off l,a=some ⟨b,off,none⟩∧R.cells c l x∧∀j u,l[j]? = some u→Im c b (off+i * R.size+j) u
theorem Sl.lw {α:Type} {R:Rp α} {c c':Cx} {v:Value} {xs:List α} (h:Sl R c v xs) (k:c.lw c'):Sl R c' v xs:=by
 obtain ⟨a,cap,h1,h2,h3,h4⟩:=h;refine ⟨a,cap,h1,h2,h3,fun i x hx=>?_⟩;obtain ⟨b,off,l,e,hl,hc⟩:=h4 i x hx;exact ⟨b,off,l,e,R.mono k hl,fun j u hu=>(hc j u hu).lw k⟩
theorem Sl.mono {α:Type} {R:Rp α} {c c':Cx} {v:Value} {xs:List α} (h:Sl R c v xs) (k:c.le c'):Sl R c' v xs:=h.lw k.lw
theorem Sl.one {α:Type} {R:Rp α} {c:Cx} {v:Value} {xs:List α} (h:Sl R c v xs):v.oneCell'=true:=by
 obtain ⟨a,cap,rfl,_⟩:=h; rfl
theorem Sl.nil {α:Type} (R:Rp α) (c:Cx) (a:Option Addr) (cap:Nat) (h:cap≤maxLen):Sl R c (.slice a 0 cap) []:=
 ⟨a,cap,rfl,cZ _,h,fun i x hx=>by simp at hx⟩
theorem Sl.nl {α:Type} (R:Rp α) (c:Cx):Sl R c (.slice none 0 0) []:=Sl.nil R c none 0 (cZ _)
def RL {α:Type} (R:Rp α):Rp (List α) where
 size:=1
 cells:=fun c l xs=>∃v,l= [v]∧Sl R c v xs
 len:=fun ⟨v,h,_⟩=>by simp [h]
 one:=fun ⟨v,h,hs⟩ u hu=>by rw [h] at hu; simp at hu; subst hu; exact hs.one
 mono:=fun k ⟨v,h,hs⟩=>⟨v,h,hs.lw k⟩
def Pt (g:Nat) (c:Cx) (v:Value):Option Nat→Prop
 | none=>v= .pointer none
 | some k=>∃b,v= .pointer (some ⟨b,0,none⟩)∧c.t g k=some b
theorem Pt.lw {g:Nat} {c c':Cx} {v:Value} {p:Option Nat} (h:Pt g c v p) (k:c.lw c'):Pt g c' v p:=by
 cases p with
 | none=>exact h
 | some p=>obtain ⟨b,h1,h2⟩:=h; exact ⟨b,h1,k.t _ _ _ h2⟩
theorem Pt.mono {g:Nat} {c c':Cx} {v:Value} {p:Option Nat} (h:Pt g c v p) (k:c.le c'):Pt g c' v p:=h.lw k.lw
theorem Pt.one {g:Nat} {c:Cx} {v:Value} {p:Option Nat} (h:Pt g c v p):v.oneCell'=true:=by
 cases p with
 | none=>obtain rfl:=h; rfl
 | some p=>obtain ⟨b,rfl,_⟩:=h; rfl
def RP (g:Nat):Rp (Option Nat) where
 size:=1
 cells:=fun c l p=>∃v,l= [v]∧Pt g c v p
 len:=fun ⟨v,h,_⟩=>by simp [h]
 one:=fun ⟨v,h,hs⟩ u hu=>by rw [h] at hu; simp at hu; subst hu; exact hs.one
 mono:=fun k ⟨v,h,hs⟩=>⟨v,h,hs.lw k⟩
theorem Pt.get {g:Nat} {c:Cx} {v:Value} {p:Option Nat} {k:Nat} (h:Pt g c v p) (hp:p=some k):∃b,v= .pointer (some ⟨b,0,none⟩)∧c.t g k=some b:=by subst hp; exact h
theorem Pt.get2 {g:Nat} {c:Cx} {b k:Nat} {p:Option Nat} (h:Pt g c (.pointer (some ⟨b,0,none⟩)) p) (hp:p=some k):c.t g k=some b:=by
 subst hp;obtain ⟨b',h1,h2⟩:=h;cases h1;exact h2
inductive Er where
 | nil
 | sent (g:Nat)
 | fault (i:Int) (e:Er)
structure Fz (c:Cx) (b:Nat):Prop where
 lt:b < c.w.heap.size
 nA:∀o,¬c.A b o
 blk:∃vs T,c.w.heap[b]? = some (.cells vs T (0,0))
theorem Fz.lw {c c':Cx} {b:Nat} (h:Fz c b) (k:c.lw c'):Fz c' b:=by
 obtain ⟨vs,T,hb⟩:=h.blk;exact ⟨jg h.lt k.size,fun o=>(k.cell b o h.lt (h.nA o)).2,vs,T,(k.block b _ _ _ hb h.nA).trans hb⟩
def RE (S T:TypeId) (c:Cx):Value→Er→Prop
 | v,.nil=>v= .nilIface
 | v,.sent g=>∃a,v= .iface S (.pointer (some a))∧Im c g 0 v∧Fz c a.block
 | v,.fault i e=>∃b u,v= .iface T (.pointer (some ⟨b,0,none⟩))∧Im c b 0 (.int .i64 i)∧Im c b 1 u∧RE S T c u e
theorem RE.lw {S T:TypeId} {c c':Cx} {v:Value} {e:Er} (h:RE S T c v e) (k:c.lw c'):RE S T c' v e:=by
 induction e generalizing v with
 | nil=>exact h
 | sent g=>obtain ⟨b,h,hi,hf⟩:=h; exact ⟨b,h,hi.lw k,hf.lw k⟩
 | fault i e ih=>obtain ⟨b,u,h,h1,h2,h3⟩:=h; exact ⟨b,u,h,h1.lw k,h2.lw k,ih h3⟩
theorem RE.mono {S T:TypeId} {c c':Cx} {v:Value} {e:Er} (h:RE S T c v e) (k:c.le c'):RE S T c' v e:=h.lw k.lw
theorem RE.im {S T:TypeId} {c:Cx} {v:Value} {g:Nat} (h:RE S T c v (.sent g)):Im c g 0 v:=by
 obtain ⟨b,_,h,_⟩:=h; exact h
def Er.isNil:Er→Bool
 | .nil=>true
 | _=>false
def sb:Value→Nat
 | .slice (some a) _ _=>a.block
 | _=>0
def so:Value→Nat
 | .slice (some a) _ _=>a.off
 | _=>0
theorem Sl.at {α:Type} {R:Rp α} {c:Cx} {v:Value} {xs:List α} (h:Sl R c v xs) {i:Nat} {x:α} (hx:xs[i]? = some x):
  ∃l,R.cells c l x∧∀j u,l[j]? = some u→Im c (sb v) (so v+i * R.size+j) u:=by
 obtain ⟨a,cap,rfl,_,_,h4⟩:=h;obtain ⟨b,off,l,rfl,hl,hc⟩:=h4 i x hx;exact ⟨l,hl,hc⟩
def idx {α:Type} (xs:List α) (i:Int):Option α:=if 0≤i then xs[i.toNat]? else none
def slc {α:Type} (xs:List α) (i j:Int):Option (List α):=if 0≤i∧i≤j∧j≤xs.length then some ((xs.drop i.toNat).take (j - i).toNat) else none
def far:Nat:=1099511627776
def app {α:Type} (xs ys:List α):Option (List α):=if xs.length+ys.length≤far then some (xs++ys) else none
def rep {α:Type} (n:Int) (x:α):Option (List α):=if 0≤n∧n≤far then some (List.replicate n.toNat x) else none
def nF {α:Type} (xs:List α) (i:Int) (x:α):Option (List α):=if 0≤i∧i < xs.length then some (xs.set i.toNat x) else none
theorem bz {α:Type} {xs:List α} {i:Int} {x:α} (h:idx xs i=some x):xs[i.toNat]? = some x:=by
 unfold idx at h;split at h
 ·exact h
 ·cases h
theorem p9 {α:Type} {xs:List α} {i:Int} {x:α} (h:idx xs i=some x):0≤i∧i < xs.length:=by
 have:=bz h;unfold idx at h;split at h
 ·have:=(List.getElem?_eq_some_iff.1 this).1;omega
 ·cases h
structure En where
 v:Value
 T:TypeId
 vs:List Value
 lim:Nat
def blk:Value→Option Nat
 | .pointer (some a)=>some a.block
 | .slice (some a) _ _=>some a.block
 | _=>none
def En.on (e:En) (c:Cx):Prop:=∀b,blk e.v=some b→c.w.heap[b]? = some (.cells e.vs.toArray e.T (0,0))∧∀o,c.A b o↔e.lim≤o
def apart (e e':En):Prop:=∀b,blk e.v=some b→blk e'.v=some b→False
def sV:En:=⟨.nilIface,0,[],0⟩
abbrev Gm:=Nat→Nat→List En
def at_ (G:Gm) (F:List En):Nat ⊕ (Nat×Nat×Nat)→Option En
 | .inl k=>F[k]?
 | .inr (g,k,r)=>(G g k)[r]?
def nP {ι:Type} (c:Cx) (M:ι→Option En):Prop:=(∀i e,M i=some e→e.on c)∧∀i j e e',M i=some e→M j=some e'→i≠j→apart e e'
theorem En.on.lt {e:En} {c:Cx} {b:Nat} (h:e.on c) (hb:blk e.v=some b):b < c.w.heap.size:=(Array.getElem?_eq_some_iff.1 (h b hb).1).1
theorem En.on.keep {e:En} {c c':Cx} (h:e.on c) (k:∀b,blk e.v=some b→c'.w.heap[b]? = c.w.heap[b]?∧∀o,c'.A b o↔c.A b o):e.on c':=fun b hb=>
 ⟨(k b hb).1.trans (h b hb).1,fun o=>((k b hb).2 o).trans ((h b hb).2 o)⟩
theorem xh (c:Cx):sV.on c:=fun b hb=>by cases hb
theorem uY (e:En):apart sV e:=fun b hb=>by cases hb
theorem vG (e:En):apart e sV:=fun b _ hb=>by cases hb
theorem nP.upd {ι:Type} {c c':Cx} {M M':ι→Option En} (h:nP c M) (i:ι) {D:Nat→Prop} (hb:c.but D c') (hD:∀b,D b→∃e,M i=some e∧blk e.v=some b) (hM:∀j,j≠i→M' j=M j)
  {e':En} (hi:M' i=some e') (hon:e'.on c') (hnew:∀b,blk e'.v=some b→(∃e,M i=some e∧blk e.v=some b)∨c.w.heap.size≤b):nP c' M':=by
 have key:∀j e,j≠i→M' j=some e→e.on c':=fun j e hj he=>by
  rw [hM j hj] at he;refine (h.1 j e he).keep fun b hbe=>hb.same b ((h.1 j e he).lt hbe) fun hd=>?_;obtain ⟨e2,h2,h3⟩:=hD b hd;exact h.2 j i e e2 he h2 hj b hbe h3
 have far:∀j e,j≠i→M' j=some e→apart e e':=fun j e hj he b h1 h2=>by
  rw [hM j hj] at he;rcases hnew b h2 with ⟨e2,h3,h4⟩ | h3
  ·exact h.2 j i e e2 he h3 hj b h1 h4
  ·exact absurd ((h.1 j e he).lt h1) (Nat.not_lt.2 h3)
 classical
 refine ⟨fun j e he=>?_,fun j k e e2 he he2 hjk=>?_⟩
 ·by_cases hj:j=i
  ·subst hj; rw [hi] at he; cases he; exact hon
  ·exact key j e hj he
 ·by_cases hj:j=i
  ·subst hj;rw [hi] at he; cases he;exact fun b h1 h2=>far k e2 (rd hjk) he2 b h2 h1
  ·by_cases hk:k=i
   ·subst hk; rw [hi] at he2; cases he2; exact far j e hj he
   ·rw [hM j hj] at he; rw [hM k hk] at he2; exact h.2 j k e e2 he he2 hjk
theorem nP.re {ι κ:Type} {c:Cx} {M:ι→Option En} {M':κ→Option En} (h:nP c M) (f:κ→ι) (hf:∀k e,M' k=some e→M (f k)=some e) (inj:∀k k' e e',M' k=some e→M' k'=some e'→f k=f k'→k=k'):nP c M':=
 ⟨fun k e he=>h.1 _ e (hf k e he),fun k k' e e' he he' hne=>h.2 _ _ e e' (hf k e he) (hf k' e' he') fun hh=>hne (inj k k' e e' he he' hh)⟩
structure Own (c:Cx) (G:Gm) (F:List En):Prop where
 m:nP c (at_ G F)
 t0:∀g k,G g k= []→c.t g k=none
section
variable {c c':Cx} {G:Gm} {F:List En}
theorem Own.on (O:Own c G F) (k:Nat) {e:En} (h:F[k]? = some e):e.on c:=O.m.1 (.inl k) e h
theorem Own.gon (O:Own c G F) {g k:Nat} {E:List En} (hE:G g k=E) (r:Nat) {e:En} (h:E[r]? = some e):e.on c:=O.m.1 (.inr (g,k,r)) e (by subst hE; exact h)
theorem Own.keep (O:Own c G F) (h:c.but (fun _=>False) c'):Own c' G F:=
 ⟨⟨fun i e he=>(O.m.1 i e he).keep fun b hb=>h.same b ((O.m.1 i e he).lt hb) id,O.m.2⟩,fun g k hk=>by rw [h.t]; exact O.t0 g k hk⟩
theorem Own.set (O:Own c G F) (k:Nat) {e e':En} {D:Nat→Prop} (hk:F[k]? = some e) (hb:c.but D c') (hD:∀b,D b→blk e.v=some b) (hon:e'.on c') (hnew:∀b,blk e'.v=some b→blk e.v=some b∨c.w.heap.size≤b):Own c' G (F.set k e'):=
 ⟨nP.upd O.m (.inl k) hb (fun b h=>⟨e,hk,hD b h⟩) (fun j hj=>by
  cases j with
  | inl j=>exact aR (fun e=>hj (by rw [e]))
  | inr j=>rfl) (e':=e') (bi (List.getElem?_eq_some_iff.1 hk).1) hon (fun b h=>(hnew b h).imp (fun h=>⟨e,hk,h⟩) id),fun g k hk=>by rw [hb.t]; exact O.t0 g k hk⟩
theorem Own.sel {F0:List En} {L:List En} (ix:List Nat) (O:Own c G (L++F0)) (hn:ix.Nodup) {L':List En} (hL:ix.map (fun i=>L[i]?)=L'.map some):Own c G (L'++F0):=by
 have hlen:ix.length=L'.length:=by have:=mN List.length hL; simpa using this
 have hget:∀(i:Nat) (hi:i < ix.length),L[ix[i]]? = some (L'[i]'(hlen▸ hi)):=fun i hi=>by
  have:=mN (fun l=>l[i]?) hL;simpa [af hi,af (hlen▸ hi:i < L'.length)] using this
 refine ⟨nP.re O.m (fun j=>match j with
  | .inl j=>if h:j < ix.length then .inl ix[j] else .inl (j - ix.length+L.length)
  | .inr j=> .inr j) ?_ ?_,O.t0⟩
 ·intro j e he
  cases j with
  | inr j=>exact he
  | inl j=>
   by_cases hj:j < ix.length
   ·simp only [hj,vJ];have h2:=hget j hj;have hlt:=(List.getElem?_eq_some_iff.1 h2).1;simp only [at_] at he⊢;rw [ax (hlen▸ hj),af (hlen▸ hj)] at he;rw [ax hlt,h2,he]
   ·simp only [hj,vK,qU];simp only [at_] at he⊢;rw [aI (by omega)] at he;rw [aI (by omega),←he]
    congr 1
    omega
 ·intro j j' e e' he he' hh
  cases j with
  | inr j=>
   cases j' with
   | inr j'=>exact hh
   | inl j'=>by_cases hj:j' < ix.length <;> simp [hj] at hh
  | inl j=>
   cases j' with
   | inr j'=>by_cases hj:j < ix.length <;> simp [hj] at hh
   | inl j'=>
    by_cases hj:j < ix.length
    ·have h1:=(List.getElem?_eq_some_iff.1 (hget j hj)).1;by_cases hj':j' < ix.length
     ·simp only [hj,hj',vJ,rK] at hh;rw [(List.getElem_inj hn).1 hh]
     ·simp only [hj,hj',vJ,vK,qU,rK] at hh;omega
    ·by_cases hj':j' < ix.length
     ·have h1:=(List.getElem?_eq_some_iff.1 (hget j' hj')).1;simp only [hj,hj',vJ,vK,qU,rK] at hh;omega
     ·simp only [hj,hj',vK,qU,rK] at hh
      congr 1
      omega
theorem Own.cons (O:Own c G F) {e:En} {D:Nat→Prop} (hb:c.but D c') (hD:∀b,¬D b) (hon:e.on c') (hnew:∀b,blk e.v=some b→c.w.heap.size≤b):Own c' G (e :: F):=by
 have O1:nP c (at_ G (sV :: F)):=by
  refine ⟨fun i e he=>?_,fun i j e e' he he' hij=>?_⟩
  ·cases i with
   | inr i=>exact O.m.1 (.inr i) e he
   | inl i=>cases i with
    | zero=>cases he; exact xh c
    | succ i=>exact O.m.1 (.inl i) e he
  ·have pull:∀i,i≠ .inl 0→∀e,at_ G (sV :: F) i=some e→∃i',at_ G F i'=some e∧(match i' with | .inl k=>i= .inl (k+1) | .inr k=>i= .inr k):=fun i hi e he=>by
    cases i with
    | inr i=>exact ⟨.inr i,he,rfl⟩
    | inl i=>cases i with
     | zero=>exact absurd rfl hi
     | succ i=>exact ⟨.inl i,he,rfl⟩
   by_cases hi:i= .inl 0
   ·subst hi; cases he; exact uY _
   ·by_cases hj:j= .inl 0
    ·subst hj; cases he'; exact vG _
    ·obtain ⟨i',h1,h2⟩:=pull i hi e he;obtain ⟨j',h3,h4⟩:=pull j hj e' he';refine O.m.2 i' j' e e' h1 h3 fun hh=>hij ?_;subst hh
     cases i' <;> simp_all
 exact ⟨nP.upd O1 (.inl 0) hb (fun b h=>absurd h (hD b)) (fun j hj=>by
  cases j with
  | inr j=>rfl
  | inl j=>cases j with
   | zero=>exact absurd rfl hj
   | succ j=>rfl) (e':=e) rfl hon (fun b h=> .inr (hnew b h)),fun g k hk=>by rw [hb.t]; exact O.t0 g k hk⟩
theorem Own.addHole (O:Own c G F) {e:En} (he:blk e.v=none):Own c G (e :: F):=
 O.cons (D:=fun _=>False) ⟨Cx.le.refl c,rfl,fun _ _ _=>⟨rfl,fun _=>Jc⟩⟩ (fun _=>id) (fun b hb=>by rw [he] at hb; cases hb) (fun b hb=>by rw [he] at hb; cases hb)
theorem Own.tail {e:En} (O:Own c G (e :: F)):Own c G F:=
 ⟨nP.re O.m (fun j=>match j with | .inl j=> .inl (j+1) | .inr j=> .inr j) (fun j e he=>by cases j <;> exact he) (fun j j' _ _ _ _ h=>by
  cases j <;> cases j' <;> simp_all),O.t0⟩
def jl (G:Gm) (g k:Nat) (E:List En):Gm:=fun g' k'=>if g'=g∧k'=k then E else G g' k'
theorem cL (G:Gm) (g k:Nat) (E:List En):jl G g k E g k=E:=by simp [jl]
theorem uz {c:Cx} {G:Gm} {g k:Nat} {E:List En} (h:∀g k,G g k= []→c.t g k=none) (hE:E= []→G g k= []):∀g' k',jl G g k E g' k'= []→c.t g' k'=none:=fun g' k' h'=>by
 simp only [jl] at h';split at h'
 ·rename_i hh
  obtain ⟨rfl,rfl⟩:=hh;exact h _ _ (hE h')
 ·exact h _ _ h'
theorem wS {α:Type} {E:List α} {r:Nat} {e:α} (h:E.set r e= []):E= []:=by
 have:=mN List.length h;rw [bY] at this;exact cf this
theorem eK {G:Gm} {g k g' k':Nat} {E:List En} (h:¬(g'=g∧k'=k)):jl G g k E g' k'=G g' k':=by simp only [jl,ab h]
theorem Own.setR (O:Own c G F) {g k:Nat} {E:List En} (r:Nat) {e e':En} {D:Nat→Prop} (hE:G g k=E) (hr:E[r]? = some e) (hb:c.but D c') (hD:∀b,D b→blk e.v=some b) (hon:e'.on c') (hnew:∀b,blk e'.v=some b→blk e.v=some b∨c.w.heap.size≤b):
  Own c' (jl G g k (E.set r e')) F:=by
 subst hE;refine ⟨nP.upd O.m (.inr (g,k,r)) hb (fun b h=>⟨e,hr,hD b h⟩) (fun j hj=>?_) (e':=e') ?_ hon (fun b h=>(hnew b h).imp (fun h=>⟨e,hr,h⟩) id),uz (fun g k hk=>by rw [hb.t]; exact O.t0 g k hk) wS⟩
 ·cases j with
  | inl j=>rfl
  | inr j=>
   obtain ⟨g',k',r'⟩:=j;by_cases h:g'=g∧k'=k
   ·obtain ⟨rfl,rfl⟩:=h;simp only [at_,cL];exact aR (fun e=>hj (by rw [e]))
   ·simp only [at_,eK h]
 ·simp only [at_,cL];exact bi (List.getElem?_eq_some_iff.1 hr).1
theorem Own.borrow (O:Own c G F) {g k:Nat} {E:List En} (r:Nat) {e:En} (hE:G g k=E) (hr:E[r]? = some e):Own c (jl G g k (E.set r sV)) (e :: F):=by
 subst hE;have hlt:=(List.getElem?_eq_some_iff.1 hr).1;have main:∀g' k' r' e1,at_ (jl G g k ((G g k).set r sV)) (e :: F) (.inr (g',k',r'))=some e1→(g',k',r')≠(g,k,r)→at_ G F (.inr (g',k',r'))=some e1:=fun g' k' r' e1 h1 hne=>by
  simp only [at_] at h1⊢;by_cases h:g'=g∧k'=k
  ·obtain ⟨rfl,rfl⟩:=h;rw [cL,aR (fun e=>hne (by rw [e]))] at h1;exact h1
  ·rwa [eK h] at h1
 have hh:∀e1,at_ (jl G g k ((G g k).set r sV)) (e :: F) (.inr (g,k,r))=some e1→e1=sV:=fun e1 h1=>by
  simp only [at_,cL] at h1;rw [bi hlt] at h1
  cases h1; rfl
 classical
 let f:Nat ⊕ (Nat×Nat×Nat)→Nat ⊕ (Nat×Nat×Nat):=fun j=>match j with
  | .inl 0=> .inr (g,k,r)
  | .inl (j+1)=> .inl j
  | .inr j=> .inr j
 have hf:∀j e1,j≠ .inr (g,k,r)→at_ (jl G g k ((G g k).set r sV)) (e :: F) j=some e1→at_ G F (f j)=some e1:=fun j e1 hj he=>by
  cases j with
  | inl j=>cases j with
   | zero=>cases he; exact hr
   | succ j=>exact he
  | inr j=>exact main j.1 j.2.1 j.2.2 e1 he (fun e=>hj (by rw [←e]))
 refine ⟨⟨fun j e1 he=>?_,fun j j' e1 e2 he he2 hne=>?_⟩,uz O.t0 wS⟩
 ·by_cases hj:j= .inr (g,k,r)
  ·subst hj; rw [hh e1 he]; exact xh c
  ·exact O.m.1 (f j) e1 (hf j e1 hj he)
 ·by_cases hj:j= .inr (g,k,r)
  ·subst hj; rw [hh e1 he]; exact uY _
  ·by_cases hj':j'= .inr (g,k,r)
   ·subst hj'; rw [hh e2 he2]; exact vG _
   ·refine O.m.2 (f j) (f j') e1 e2 (hf j e1 hj he) (hf j' e2 hj' he2) fun hff=>?_
    cases j with
    | inl j=>cases j with
     | zero=>cases j' with
      | inl j'=>cases j' with
       | zero=>exact hne rfl
       | succ j'=>simp [f] at hff
      | inr j'=>exact hj' (by simpa [f] using hff.symm)
     | succ j=>cases j' with
      | inl j'=>cases j' with
       | zero=>simp [f] at hff
       | succ j'=>exact hne (by simpa [f] using hff)
      | inr j'=>simp [f] at hff
    | inr j=>cases j' with
     | inl j'=>cases j' with
      | zero=>exact hj (by simpa [f] using hff)
      | succ j'=>simp [f] at hff
     | inr j'=>exact hne (by simpa [f] using hff)
theorem Own.give {e:En} (O:Own c G (e :: F)) {g k:Nat} {E:List En} (r:Nat) {e0:En} (hE:G g k=E) (hr:E[r]? = some e0):Own c (jl G g k (E.set r e)) F:=by
 subst hE;have hlt:=(List.getElem?_eq_some_iff.1 hr).1
 classical
 let f:Nat ⊕ (Nat×Nat×Nat)→Nat ⊕ (Nat×Nat×Nat):=fun j=>match j with
  | .inl j=> .inl (j+1)
  | .inr j=>if j=(g,k,r) then .inl 0 else .inr j
 refine ⟨nP.re O.m f (fun j e1 he=>?_) (fun j j' e1 e2 he he2 hff=>?_),uz O.t0 wS⟩
 ·cases j with
  | inl j=>exact he
  | inr j=>
   obtain ⟨g',k',r'⟩:=j;by_cases h0:(g',k',r')=(g,k,r)
   ·simp only [fM] at h0;obtain ⟨rfl,rfl,rfl⟩:=h0;simp only [at_,cL] at he;rw [bi hlt] at he;simp only [f,ae];exact he
   ·simp only [f,ab h0];simp only [at_] at he⊢;by_cases h:g'=g∧k'=k
    ·obtain ⟨rfl,rfl⟩:=h;rw [cL,aR (fun e=>h0 (by rw [e]))] at he;exact he
    ·rwa [eK h] at he
 ·cases j with
  | inl j=>cases j' with
   | inl j'=>simpa [f] using hff
   | inr j'=>by_cases h:j'=(g,k,r) <;> simp [f,h] at hff
  | inr j=>cases j' with
   | inl j'=>by_cases h:j=(g,k,r) <;> simp [f,h] at hff
   | inr j'=>
    by_cases h:j=(g,k,r)
    ·by_cases h':j'=(g,k,r)
     ·rw [h,h']
     ·simp [f,h,h'] at hff
    ·by_cases h':j'=(g,k,r)
     ·simp [f,h,h'] at hff
     ·simpa [f,h,h'] using hff
theorem wi (G:Gm) (g k:Nat) (E E':List En):jl (jl G g k E) g k E'=jl G g k E':=by
 funext g' k'
 simp only [jl];split <;> rfl
theorem Own.giveB {e:En} {g k:Nat} {E:List En} (r:Nat) {e0:En} (O:Own c (jl G g k E) (e :: F)) (hr:E[r]? = some e0):Own c (jl G g k (E.set r e)) F:=by
 have:=Own.give O r (cL G g k E) hr
 rwa [wi] at this
theorem nP.newObj {E:List En} (O:nP c (at_ G (E++F))) {g k:Nat} (hE:G g k= []):nP c (at_ (jl G g k E) F):=by
 classical
 let f:Nat ⊕ (Nat×Nat×Nat)→Nat ⊕ (Nat×Nat×Nat):=fun j=>match j with
  | .inl j=> .inl (j+E.length)
  | .inr j=>if j.1=g∧j.2.1=k then .inl j.2.2 else .inr j
 have hr:∀r e,at_ (jl G g k E) F (.inr (g,k,r))=some e→r < E.length:=fun r e he=>by
  simp only [at_,cL] at he;exact (List.getElem?_eq_some_iff.1 he).1
 refine nP.re O f (fun j e1 he=>?_) (fun j j' e1 e2 he he2 hff=>?_)
 ·cases j with
  | inl j=>
   simp only [f,at_] at he⊢;rw [aI (by omega)];rw [←he]; congr 1; omega
  | inr j=>
   obtain ⟨g',k',r'⟩:=j;by_cases h:g'=g∧k'=k
   ·simp only [f,ae h];obtain ⟨rfl,rfl⟩:=h;have:=hr _ _ he;simp only [at_,cL] at he⊢;rw [ax this]; exact he
   ·simp only [f,ab h];simp only [at_,eK h] at he⊢;exact he
 ·cases j with
  | inl j=>cases j' with
   | inl j'=>simpa [f] using hff
   | inr j'=>
    obtain ⟨g',k',r'⟩:=j';by_cases h:g'=g∧k'=k
    ·obtain ⟨rfl,rfl⟩:=h;have:=hr _ _ he2;simp [f] at hff;omega
    ·simp [f,h] at hff
  | inr j=>
   obtain ⟨g1,k1,r1⟩:=j
   cases j' with
   | inl j'=>
    by_cases h:g1=g∧k1=k
    ·obtain ⟨rfl,rfl⟩:=h;have:=hr _ _ he;simp [f] at hff;omega
    ·simp [f,h] at hff
   | inr j'=>
    obtain ⟨g',k',r'⟩:=j';by_cases h:g1=g∧k1=k
    ·by_cases h':g'=g∧k'=k
     ·simp only [f,ae h,ae h',rK] at hff;obtain ⟨rfl,rfl⟩:=h;obtain ⟨rfl,rfl⟩:=h';rw [hff]
     ·simp [f,h,h'] at hff
    ·by_cases h':g'=g∧k'=k
     ·simp [f,h,h'] at hff
     ·simpa [f,h,h'] using hff
theorem Own.newObj {E:List En} (O:Own c G (E++F)) {g k b:Nat} (hE:G g k= []) (hne:E≠ []):∃c',(c'.w=c.w∧c'.A=c.A)∧c.le c'∧c'.t g k=some b∧Own c' (jl G g k E) F:=by
 have ht:∀g' k' b',c.t g' k'=some b'→¬(g'=g∧k'=k):=fun g' k' b' h hh=>by
  obtain ⟨rfl,rfl⟩:=hh;rw [O.t0 _ _ hE] at h;cases h
 refine ⟨⟨c.w,c.A,fun g' k'=>if g'=g∧k'=k then some b else c.t g' k'⟩,⟨rfl,rfl⟩,⟨rfl,rfl,aw _,fun _ _ _ h=>⟨rfl,h⟩,fun _ _ _=>rfl,fun _ _ _=>rfl,fun g' k' b' h=>?_⟩,by simp,⟨nP.newObj O.m hE,fun g' k' h=>?_⟩⟩
 ·simp only [ab (ht g' k' b' h)];exact h
 ·simp only [jl] at h⊢;split at h
  ·exact absurd h hne
  ·rename_i hh
   simp only [ab hh];exact O.t0 _ _ h
structure Rl {α:Type} (Y:Cx→Option Nat→List En→α→Prop) (g:Nat) (c:Cx) (G:Gm) (xs:List α):Prop where
 ob:∀k x,xs[k]? = some x→Y c (c.t g k) (G g k) x
 no:∀k,xs.length≤k→G g k= []
variable {α:Type} {Y:Cx→Option Nat→List En→α→Prop} {g:Nat} {xs:List α}
theorem Rl.mono (h:Rl Y g c G xs) (hm:∀b E x,Y c (some b) E x→Y c' (some b) E x) (hs:∀E x,¬Y c none E x) (hk:c.lw c'):Rl Y g c' G xs:=
 ⟨fun k x hx=>by
  have:=h.ob k x hx
  cases hb:c.t g k with
  | none=>rw [hb] at this; exact absurd this (hs _ _)
  | some b=>rw [hb] at this; rw [hk.t g k b hb]; exact hm b _ _ this,h.no⟩
theorem Rl.set (h:Rl Y g c G xs) {k:Nat} {E:List En} {x:α} (hk:k < xs.length) (hY:Y c (c.t g k) E x):Rl Y g c (jl G g k E) (xs.set k x):=
 ⟨fun j y hy=>by
  by_cases hj:j=k
  ·subst hj;rw [bi hk] at hy;cases hy;rw [cL]; exact hY
  ·rw [aR (rd hj)] at hy;rw [eK (fun e=>hj e.2)];exact h.ob j y hy,fun j hj=>by
  rw [bY] at hj;rw [eK (fun e=>by omega)];exact h.no j hj⟩
theorem Rl.other (h:Rl Y g c G xs) {g' k:Nat} {E:List En} (hne:g≠g'):Rl Y g c (jl G g' k E) xs:=
 ⟨fun j y hy=>by rw [eK (fun e=>hne e.1)]; exact h.ob j y hy,fun j hj=>by rw [eK (fun e=>hne e.1)]; exact h.no j hj⟩
theorem Rl.new (h:Rl Y g c G xs) {E:List En} {x:α} (hY:Y c (c.t g xs.length) E x):Rl Y g c (jl G g xs.length E) (xs++ [x]):=
 ⟨fun j y hy=>by
  by_cases hj:j=xs.length
  ·subst hj;rw [aI (aw _)] at hy;simp at hy;subst hy;rw [cL]; exact hY
  ·have hlt:j < xs.length:=by
    have:=(List.getElem?_eq_some_iff.1 hy).1;rw [ai] at this;simp at this;omega
   rw [ax hlt] at hy;rw [eK (fun e=>hj e.2)];exact h.ob j y hy,fun j hj=>by
  rw [ai] at hj;simp at hj;rw [eK (fun e=>by omega)];exact h.no j (by omega)⟩
end
end Go.Lt
namespace Go.Lt
def aT (c:Cx) (X:Cx→Value→Prop):Ending→World→Prop:=fun x w=>∃v c',x= .returned v∧w=c'.w∧c.le c'∧X c' v
def Kp (G:Gm) (N:List En) (c:Cx):Prop:=∀i e,at_ G N i=some e→e.on c
theorem Kp.nil {c:Cx} {G:Gm} {F:List En} (O:Own c G F):Kp G [] c:=fun i e h=>by
 cases i with
 | inl i=>simp [at_] at h
 | inr i=>exact O.m.1 (.inr i) e h
def G0:Gm:=fun _ _=>[]
theorem Kp.nil0 {c:Cx}:Kp G0 [] c:=fun i e h=>by
 cases i <;> simp [at_,G0] at h
theorem Kp.cons {c:Cx} {G:Gm} {N:List En} {e:En} (h:e.on c) (k:Kp G N c):Kp G (e :: N) c:=fun i e' h'=>by
 cases i with
 | inl i=>cases i with
  | zero=>cases h'; exact h
  | succ i=>exact k (.inl i) e' h'
 | inr i=>exact k (.inr i) e' h'
theorem Kp.on {c:Cx} {G:Gm} {N:List En} (h:Kp G N c) (k:Nat) {e:En} (hk:N[k]? = some e):e.on c:=h (.inl k) e hk
theorem Kp.gon {c:Cx} {G:Gm} {N:List En} (h:Kp G N c) {g k:Nat} {E:List En} (hE:G g k=E) (r:Nat) {e:En} (hr:E[r]? = some e):e.on c:=h (.inr (g,k,r)) e (by subst hE; exact hr)
def Hs (ops:Array Oper) (li:List Bool) (i:Nat) (B:List Nat):List Nat:=
 (List.range ops.size).filter fun j=> !li.getD j true && !(j==i) && (ops[j]?).any fun o=>o.after.any fun x=>Region.binds .any x && ((x.on==i && !li.getD i true) || B.contains x.on)
def Ca (ops:Array Oper) (li:List Bool) (i:Nat):Nat→List Nat
 | 0=>[]
 | n+1=>Hs ops li i (Ca ops li i n)
def okB (ops:Array Oper) (li:List Bool) (i:Nat) (D:List Nat):Bool:=
 let B:=Ca ops li i ops.size
 B.all (fun j=> !li.getD j true && !(j==i) && (ops[j]?).any fun o=>o.after.any fun x=>Region.binds .any x && (x.on==i || B.contains x.on)) && D.all fun j=>li.getD j true || B.contains j
section
variable {P:Program} {ops:Array Oper} {n:Fr} {r:Option Nat} {Q:Exit→(Nat→Value)→World→Prop} {D:List Nat} {K:Cx→Prop}
def rM (r:Option Nat) (D:List Nat) (K:Cx→Prop) (P:Program) (ops:Array Oper) (Q:Exit→Act→World→Prop):Nat→Array Bool→Act→Cx→Prop
 | 0,listed,a,c=>Region.ready .any ops listed= []∧Q .normal a c.w
 | fuel+1,listed,a,c=>(Region.ready .any ops listed= []→Q .normal a c.w)∧
  ∀i∈Region.ready .any ops listed,wpOpIn (fen r) 0 P ops Q i (fun a' w=>∃c',w=c'.w∧c.le c'∧(i∈D∨(K c→K c'))∧rM r D K P ops Q fuel (listed.setIfInBounds i true) a' c') a c.w
theorem rM.sound {Q:Exit→Act→World→Prop}:∀(fuel:Nat) (listed:Array Bool) (a:Act) (c:Cx),rM r D K P ops Q fuel listed a c→wpAnyIn (fen r) 0 P .any ops Q fuel listed a c.w
 | 0,_,_,_,h=>h
 | _+1,_,_,_,h=>⟨h.1,fun i hi=>wpOpIn_mono (fun a w ⟨c',hw,_,_,h'⟩=>by subst hw; exact rM.sound _ _ _ _ h') (h.2 i hi)⟩
def Yl (Z:Cx→Prop) (P:Program) (ops:Array Oper) (o:Oper) (v:Value) (a:Act) (c:Cx):Prop:=
 (Region.wanted o (yielded ops a.tmps)=true∧∀c',c.le c'→Z c'→(execOp a.eval o).run P c'.w= .ok (.value v) c'.w)∨
 (Region.wanted o (yielded ops a.tmps)=false∧v=undef)
theorem Ba (o:Oper) (hs:∀cs b,o.op≠ .select cs b) (a:Act) (dst:Option Tmp) (v:Value) (h:∀d,dst=some d→d∉o.looksAt ops):
  o.semAt r (a.put dst v).eval=o.semAt r a.eval:=by
 by_cases hd:∀c,o.op≠ .defer c
 ·rw [Fy _ _ _ hd,Fy _ _ _ hd];exact IL o hs a dst v h
 ·obtain ⟨c,hc⟩:=Classical.not_forall.1 hd;have hc:=Classical.not_not.1 hc;have he:resolve (a.put dst v).eval c o.type=resolve a.eval c o.type:=resolve_congr c o.type fun x hx=>Act.eval_put fun d hd hxd=>h d hd (by
   subst hxd;exact fk _ (List.mem_filterMap.2 ⟨.tmp d,by rw [hc]; simpa [Op.operands] using hx,rfl⟩))
  cases r with
  | none=>exact IL o hs a dst v h
  | some l=>
   unfold Oper.semAt;rw [hc];simp only [he]
theorem Yl.wpOp {Z:Cx→Prop} {i:Nat} {o:Oper} {v:Value} {a:Act} {c:Cx} (hz:Z c) (hi:ops[i]? = some o) (hy:Yl Z P ops o v a c) {Q:Exit→Act→World→Prop} {K:Act→World→Prop}
  (h:K (a.put o.dst v) c.w):wpOpIn (fen r) 0 P ops Q i K a c.w:=by
 unfold Go.wpOpIn;simp only [hi];rcases hy with ⟨hw,hv⟩ | ⟨hw,rfl⟩
 ·rw [ae hw];refine ⟨fun _ _=>trivial,?_⟩;rw [pV (hv c (Cx.le.refl c) hz) (by simp),I5];exact h
 ·rw [ab (by rw [hw]; simp)];exact ⟨fun _ _=>trivial,h⟩
def Wt (ops:Array Oper) (listed:Array Bool) (i:Nat) (B:List Nat):Prop:=
 ∀j∈B,listed.getD j true=false∧j≠i∧∃oj,ops[j]? = some oj∧∃x∈oj.after,Region.binds .any x=true∧(x.on=i∨x.on∈B)
theorem wC (l:List Bool) (j:Nat):l.toArray.getD j true=l.getD j true:=by simp [co,an]
theorem CY {l:List Oper} {li:List Bool} {i:Nat} {D:List Nat} (h:okB l.toArray li i D=true):∃B,Wt l.toArray li.toArray i B∧∀j∈D,li.toArray.getD j true=true∨j∈B:=by
 refine ⟨Ca l.toArray li i l.toArray.size,fun j hj=>?_,fun j hj=>?_⟩
 ·simp only [okB,av,sK] at h;have:=h.1 j hj;simp only [dq,eG,uO] at this;obtain ⟨⟨h1,h2⟩,h3⟩:=this;refine ⟨by rw [wC]; exact h1,h2,?_⟩
  cases ho:l.toArray[j]? with
  | none=>rw [ho] at h3; cases h3
  | some oj=>
   rw [ho] at h3;simp only [Option.any_some,Array.any_eq_true',av,aE,aN,Hq] at h3;obtain ⟨x,hx,hb,hon⟩:=h3;exact ⟨oj,rfl,x,hx,hb,hon⟩
 ·simp only [okB,av,sK] at h;have:=h.2 j hj;simp only [aE,Hq] at this;rw [wC];exact this
theorem rM.first {Q:Exit→Act→World→Prop} (hP:∀ch a w,¬Q (.panic ch) a w) (hO:∀a w,¬Q .outgrown a w) {i:Nat} {oi:Oper} {v:Value} (hi:ops[i]? = some oi)
  (hsel:∀(j:Nat) (o:Oper) cs b,ops[j]? = some o→o.op≠ .select cs b) {Z:Cx→Prop} {B:List Nat} (hZ:(∀c,Z c)∨Z=K):
  ∀(fuel:Nat) (listed:Array Bool) (a:Act) (c:Cx),
   (∀j oj,ops[j]? = some oj→j≠i→listed.getD j true=false→(∀x∈oj.after,Region.binds .any x=true→x.on≠i)→oi.apart ops oj=true)→
   Wt ops listed i B→((∀c,Z c)∨∀j∈D,listed.getD j true=true∨j∈B)→Z c→
   i∈Region.ready .any ops listed→Yl Z P ops oi v a c→
   rM r D K P ops Q fuel (listed.setIfInBounds i true) (a.put oi.dst v) c→rM r D K P ops Q (fuel+1) listed a c:=by
 have notB:∀(listed:Array Bool) j,Wt ops listed i B→i∈Region.ready .any ops listed→j∈Region.ready .any ops listed→j∉B:=fun listed j hW hr hj hB=>by
  obtain ⟨_,_,oj,hoj,x,hx,hb,hon⟩:=hW j hB;obtain ⟨_,oj',hoj',hall⟩:=mem_ready.1 hj;rw [hoj] at hoj';cases hoj';have h1:=hall x hx hb;have h0:listed.getD x.on true=false:=by
   rcases hon with h | h
   ·rw [h]; exact (mem_ready.1 hr).1
   ·exact (hW _ h).1
  rcases aP x.on listed.size with h' | h'
  ·simp [h'] at h0 h1; rw [h0] at h1; cases h1
  ·simp [Hn h'] at h1
 intro fuel
 induction fuel with
 | zero=>
  intro listed a c _ hW hD hz hr hy H;refine ⟨fun h=>(by rw [h] at hr; cases hr),fun j hj=>?_⟩;by_cases hji:j=i
  ·subst hji; exact hy.wpOp hz hi ⟨c,rfl,Cx.le.refl c,.inr id,H⟩
  ·have:=IH hj hji;rw [H.1] at this;cases this
 | succ fuel ih=>
  intro listed a c hfree hW hD hz hr hy H;refine ⟨fun h=>(by rw [h] at hr; cases hr),fun j hj=>?_⟩;by_cases hji:j=i
  ·subst hji; exact hy.wpOp hz hi ⟨c,rfl,Cx.le.refl c,.inr id,H⟩
  ·have h1:=H.2 j (IH hj hji);obtain ⟨hjun,oj,hoj,hall⟩:=mem_ready.1 hj;have hnot:∀x∈oj.after,Region.binds .any x=true→x.on≠i:=fun x hx hb heq=>by
    have h1:=hall x hx hb;have h0:=(mem_ready.1 hr).1;rw [heq] at h1;rcases aP i listed.size with h' | h'
    ·simp [h'] at h0 h1; rw [h0] at h1; cases h1
    ·simp [Hn h'] at h1
   obtain ⟨ha1,ha2,ha3⟩:=Oper.apart_spec (hfree j oj hoj hji hjun hnot);have hfree':∀k ok,ops[k]? = some ok→k≠i→(listed.setIfInBounds j true).getD k true=false→
     (∀x∈ok.after,Region.binds .any x=true→x.on≠i)→oi.apart ops ok=true:=fun k ok hk hki hun hno=>by
    refine hfree k ok hk hki ?_ hno;by_cases hjk:j=k
    ·subst hjk; exact hjun
    ·rw [HV true hjk] at hun; exact hun
   have hW':Wt ops (listed.setIfInBounds j true) i B:=fun k hk=>by
    obtain ⟨h1,h2⟩:=hW k hk;refine ⟨?_,h2⟩;have hjk:j≠k:=fun e=>by subst e; exact notB listed j hW hr hj hk
    rw [HV true hjk];exact h1
   have hD':(∀c,Z c)∨∀k∈D,(listed.setIfInBounds j true).getD k true=true∨k∈B:=hD.imp id fun h k hk=>by
    rcases h k hk with h | h
    ·by_cases hjk:j=k
     ·subst hjk; rw [hjun] at h; cases h
     ·exact .inl (by rw [HV true hjk]; exact h)
    ·exact .inr h
   have keep:∀(b:Act),b.tmps=a.tmps→∀(u:Value) (c':Cx),c.le c'→Yl Z P ops oi v (b.put oj.dst u) c':=fun b hb u c' hc=>by
    have hbe:b.eval=a.eval:=by funext x; cases x <;> simp [Act.eval,hb]
    have he:execOp (b.put oj.dst u).eval oi=execOp a.eval oi:=hbe▸ IL oi (fun cs b=>hsel i oi cs b hi) _ _ _ ha3;have hw:Region.wanted oi (yielded ops (b.put oj.dst u).tmps)=Region.wanted oi (yielded ops a.tmps):=hb▸ wanted_put oi _ _ _ ha3;unfold Yl at hy⊢;rw [he,hw];exact hy.imp (fun ⟨h1,h2⟩=>⟨h1,fun c'' h hz=>h2 c'' (hc.trans h) hz⟩) id
   have fin:∀(b:Act),b.tmps=a.tmps→∀(u:Value) (w:World),(∃c',w=c'.w∧c.le c'∧(j∈D∨(K c→K c'))∧rM r D K P ops Q fuel ((listed.setIfInBounds i true).setIfInBounds j true) ((b.put oi.dst v).put oj.dst u) c')→
     ∃c',w=c'.w∧c.le c'∧(j∈D∨(K c→K c'))∧rM r D K P ops Q (fuel+1) (listed.setIfInBounds j true) (b.put oj.dst u) c':=by
    rintro b hb u w ⟨c',rfl,hle,hk,h⟩;have hz':Z c':=by
     rcases hZ with h | h
     ·exact h c'
     ·rcases hD with h2 | h2
      ·exact h2 c'
      ·rcases hk with h3 | h3
       ·rcases h2 j h3 with h4 | h4
        ·rw [hjun] at h4; cases h4
        ·exact absurd h4 (notB listed j hW hr hj)
       ·subst h; exact h3 hz
    refine ⟨c',rfl,hle,hk,ih _ _ _ hfree' hW' hD' hz' (IH hr (rd hji)) (keep b hb u c' hle) ?_⟩;rw [Array.setIfInBounds_comm _ _ hji,←Act.put_comm b v u ha2];exact h
   have he:oj.semAt r (a.put oi.dst v).eval=oj.semAt r a.eval:=Ba oj (fun cs b=>hsel j oj cs b hoj) _ _ _ ha1;have hw:Region.wanted oj (yielded ops (a.put oi.dst v).tmps)=Region.wanted oj (yielded ops a.tmps):=wanted_put oj _ _ _ ha1;unfold Go.wpOpIn at h1⊢;simp only [hoj] at h1⊢;rw [hw] at h1;split
   ·rename_i hww
    rw [ae hww] at h1;refine ⟨fun _ _=>trivial,?_⟩;have h1:=h1.2;have hro:(fen r).round=r:=rfl;rw [hro,he] at h1;rw [hro];generalize (oj.semAt r a.eval).run P c.w=res at h1⊢
    cases res with
    | ok x w'=>
     cases x <;> simp only [Oper.uponIn] at h1⊢
     case value u=>exact fin a rfl _ _ h1
     case skip=>exact fin a rfl _ _ h1
     case defer d=>rw [Act.put_defers] at h1; exact fin { a with defers:=_ :: a.defers} rfl _ _ h1
     case enter f args=>
      refine ⟨h1.1,h1.2.mono fun x w'' hx=>?_⟩
      cases x with
      | returned u=>exact fin a rfl _ _ hx
      | panicked ch=>exact absurd hx (hP _ _ _)
      | outgrown=>obtain ⟨a1,w1,h3⟩:=hx; exact absurd h3 (hO _ _)
     case row row args=>exact ⟨h1.1,h1.2.mono fun u w'' hv=>fin a rfl _ _ hv⟩
     case round l f tmps assign body=>
      refine ⟨h1.1,h1.2.mono fun x w'' hx=>?_⟩
      cases x with
      | returned u=>exact fin a rfl _ _ hx
      | panicked ch=>exact absurd hx (hP _ _ _)
      | outgrown=>obtain ⟨a1,w1,h3⟩:=hx; exact absurd h3 (hO _ _)
    | halt x w'=>
     cases x <;> simp only [Oper.uponIn] at h1⊢
     case panic u=>exact absurd h1 (hP _ _ _)
   ·rename_i hww
    rw [ab hww] at h1;exact ⟨fun _ _=>trivial,fin a rfl _ _ h1.2⟩
def AC (D:List Nat) (K:Cx→Prop) (P:Program) (l:List Oper) (n:Fr) (Q:Exit→(Nat→Value)→World→Prop) (fuel:Nat) (li:List Bool) (e:Nat→Value) (c:Cx):Prop:=
 rM n.ro D K P l.toArray (yu n Q) fuel li.toArray (act n e) c
theorem Cx.drew_le (c:Cx):c.but (fun _=>False) ⟨c.w.drew,c.A,c.t⟩:=⟨⟨rfl,rfl,aw _,fun _ _ _ h=>⟨rfl,h⟩,fun _ _ _=>rfl,fun _ _ _=>rfl,fun _ _ _ h=>h⟩,rfl,fun _ _ _=>⟨rfl,fun _=>Jc⟩⟩
theorem W.regionD (D:List Nat) (K:Cx→Prop) {id:Nat} {l:List Oper} {e:Nat→Value} {c:Cx} {G:Gm} {F:List En} (O:Own c G F) (hm:P.follows .mixedOrders=true)
  (h:∀c',c.le c'→Own c' G F→AC D K P l n Q l.length (List.replicate l.length false) e c'):W P n (.region id l.toArray true) Q e c.w:=
 wpIn_region_any hm (by
  have:=rM.sound _ _ _ _ (h _ (Cx.drew_le c).le (O.keep (Cx.drew_le c)));rw [show (List.replicate l.length false).toArray=Array.replicate l.toArray.size false by simp] at this;exact this)
variable {l:List Oper} {fuel:Nat} {li:List Bool} {e:Nat→Value} {c:Cx} {o:Oper}
theorem AC.take0 {Z:Cx→Prop} {B:List Nat} (hZ:(∀c,Z c)∨Z=K) {i:Nat} {v:Value} (hi:l.toArray[i]? = some o) (hs:Region.noSelect l.toArray=true) (hf:Region.free .any l.toArray li.toArray i=true)
  (hr:(Region.ready .any l.toArray li.toArray).contains i=true) (hB:Wt l.toArray li.toArray i B) (hD:(∀c,Z c)∨∀j∈D,li.toArray.getD j true=true∨j∈B) (hz:Z c) (hy:Yl Z P l.toArray o v (act n e) c)
  (h:AC D K P l n Q fuel (li.set i true) (upO e o.dst v) c):AC D K P l n Q (fuel+1) li e c:=by
 refine rM.first (fun ch a w h=>h.1) (fun a w h=>h.1) hi (Region.noSelect_spec hs) hZ fuel _ _ c (Region.free_spec hi hf) hB hD hz (by simpa using hr) hy ?_;rw [oT];simpa [AC] using h
def tk (l:List Oper) (n:Nat) (li:List Bool) (i:Nat):Bool:=
 Region.noSelect l.toArray && Region.free .any l.toArray li.toArray i && (Region.ready .any l.toArray li.toArray).contains i && fb n l
theorem AC.take (i:Nat) (v:Value) (hi:l.toArray[i]? = some o) (ht:tk l n li i=true) (hw:iD l.toArray n e o=true)
  (hy:∀c',c.le c'→(execOp (ev n e) o).run P c'.w= .ok (.value v) c'.w) (h:AC D K P l n Q fuel (li.set i true) (upO e o.dst v) c):AC D K P l n Q (fuel+1) li e c:=by
 simp only [tk,av] at ht;exact AC.take0 (Z:=fun _=>True) (B:=[]) (.inl fun _=>trivial) hi ht.1.1.1 ht.1.1.2 ht.1.2 (fun j hj=>by simp at hj) (.inl fun _=>trivial) trivial (.inl ⟨by rw [nR _ _ _ _ (kp ht.2)]; exact hw,by rw [lZ]; exact fun c' hc _=>hy c' hc⟩) h
theorem AC.takeb (i:Nat) {t b:Bool} (htb:t=b) (hi:l.toArray[i]? = some o) (ht:tk l n li i=true) (hw:iD l.toArray n e o=true)
  (hy:∀c',c.le c'→(execOp (ev n e) o).run P c'.w= .ok (.value (.bool t)) c'.w) (h:AC D K P l n Q fuel (li.set i true) (upO e o.dst (.bool b)) c):AC D K P l n Q (fuel+1) li e c:=by
 subst htb;exact AC.take i _ hi ht hw hy h
theorem AC.takeK (i:Nat) (v:Value) (hk:K c) (hi:l.toArray[i]? = some o) (ht:tk l n li i=true) (hB:okB l.toArray li i D=true) (hw:iD l.toArray n e o=true)
  (hy:∀c',c.le c'→K c'→(execOp (ev n e) o).run P c'.w= .ok (.value v) c'.w) (h:AC D K P l n Q fuel (li.set i true) (upO e o.dst v) c):AC D K P l n Q (fuel+1) li e c:=by
 simp only [tk,av] at ht;obtain ⟨B,h1,h2⟩:=CY hB;exact AC.take0 (Z:=K) (B:=B) (.inr rfl) hi ht.1.1.1 ht.1.1.2 ht.1.2 h1 (.inr h2) hk (.inl ⟨by rw [nR _ _ _ _ (kp ht.2)]; exact hw,by rw [lZ]; exact hy⟩) h
theorem AC.pass (i:Nat) (hi:l.toArray[i]? = some o) (ht:tk l n li i=true) (hw:iD l.toArray n e o=false)
  (h:AC D K P l n Q fuel (li.set i true) (upO e o.dst undef) c):AC D K P l n Q (fuel+1) li e c:=by
 simp only [tk,av] at ht;exact AC.take0 (Z:=fun _=>True) (B:=[]) (.inl fun _=>trivial) hi ht.1.1.1 ht.1.1.2 ht.1.2 (fun j hj=>by simp at hj) (.inl fun _=>trivial) trivial (.inr ⟨by rw [nR _ _ _ _ (kp ht.2)]; exact hw,rfl⟩) h
def Go1 (D:List Nat) (K:Cx→Prop) (P:Program) (l:List Oper) (n:Fr) (Q:Exit→(Nat→Value)→World→Prop) (fuel:Nat) (li:List Bool) (e:Nat→Value) (c:Cx) (i:Nat):Prop:=
 wpOpIn (fen n.ro) 0 P l.toArray (yu n Q) i (fun a' w=>∃c',w=c'.w∧c.le c'∧(i∈D∨(K c→K c'))∧rM n.ro D K P l.toArray (yu n Q) fuel (li.toArray.setIfInBounds i true) a' c') (act n e) c.w
def Fu (p:Nat→Prop):List Nat→Prop
 | []=>True
 | i :: l=>p i∧Fu p l
theorem Fu.mem {p:Nat→Prop}:∀{l:List Nat},Fu p l→∀i∈l,p i
 | [],_,i,hi=>by cases hi
 | a :: l,h,i,hi=>by
  rcases List.mem_cons.1 hi with rfl | hi
  ·exact h.1
  ·exact h.2.mem i hi
theorem AC.many (is:List Nat) (hne:is≠ []) (hr:Region.ready .any l.toArray li.toArray=is) (h:Fu (Go1 D K P l n Q fuel li e c) is):AC D K P l n Q (fuel+1) li e c:=
 ⟨fun h0=>(by rw [hr] at h0; exact absurd h0 hne),fun j hj=>h.mem j (hr▸ hj)⟩
theorem Go1.mk {i:Nat} (hi:l.toArray[i]? = some o) (hsl:fb n l=true) (hw:iD l.toArray n e o=true)
  (h:o.wpIn (fen n.ro) 0 P (act n e) c.w (fun a w=>∃e' c',a=act n e'∧w=c'.w∧c.le c'∧(i∈D∨(K c→K c'))∧AC D K P l n Q fuel (li.set i true) e' c') (yu n Q)):Go1 D K P l n Q fuel li e c i:=by
 unfold Go1 wpOpIn;simp only [hi];rw [ae (by rw [nR _ _ _ _ (kp hsl)]; exact hw)];refine Oper.wpIn_mono ?_ h;rintro a w ⟨e',c',rfl,rfl,hle,hk,h'⟩;exact ⟨c',rfl,hle,hk,by simpa [AC] using h'⟩
theorem Go1.val {i:Nat} {v:Value} {c':Cx} (hi:l.toArray[i]? = some o) (hsl:fb n l=true) (hw:iD l.toArray n e o=true)
  (hrun:(execOp (ev n e) o).run P c.w= .ok (.value v) c'.w) (hle:c.le c') (hk:D.contains i=true∨K c') (h:AC D K P l n Q fuel (li.set i true) (upO e o.dst v) c'):Go1 D K P l n Q fuel li e c i:=
 Go1.mk hi hsl hw (CW hrun ⟨_,c',rfl,rfl,hle,hk.imp (by simp) fun h _=>h,h⟩)
theorem Go1.do_ {i:Nat} {c':Cx} (hi:l.toArray[i]? = some o) (hsl:fb n l=true) (hw:iD l.toArray n e o=true)
  (hrun:(execOp (ev n e) o).run P c.w= .ok .skip c'.w) (hle:c.le c') (hk:D.contains i=true∨K c') (h:AC D K P l n Q fuel (li.set i true) (upO e o.dst undef) c'):Go1 D K P l n Q fuel li e c i:=
 Go1.mk hi hsl hw (FI hrun ⟨_,c',rfl,rfl,hle,hk.imp (by simp) fun h _=>h,h⟩)
theorem Go1.call {i:Nat} {f:FuncId} {args:Array Value} {X:Cx→Value→Prop} (hi:l.toArray[i]? = some o) (hsl:fb n l=true) (hw:iD l.toArray n e o=true)
  (hrun:(execOp (ev n e) o).run P c.w= .ok (.enter f args) c.w) (hc:Calls P f args c.w (aT c X))
  (h:∀v c',c.le c'→X c' v→(D.contains i=true∨K c')∧AC D K P l n Q fuel (li.set i true) (upO e o.dst v) c'):Go1 D K P l n Q fuel li e c i:=
 Go1.mk hi hsl hw (AB hrun (hc.mono fun x w=>by
  rintro ⟨v,c',rfl,rfl,hx,hX⟩;have:=h v c' hx hX;exact ⟨v,rfl,_,c',rfl,rfl,hx,this.1.imp (by simp) fun h _=>h,this.2⟩))
theorem AC.done (hr:Region.ready .any l.toArray li.toArray= []) (h:Q .normal e c.w):AC D K P l n Q fuel li e c:=by
 cases fuel with
 | zero=>exact ⟨hr,trivial,e,rfl,h⟩
 | succ k=>exact ⟨fun _=>⟨trivial,e,rfl,h⟩,by rw [hr]; simp⟩
theorem AC.gh {c':Cx} (hw:c'.w=c.w) (hA:c.le c') (hk:K c→K c') (h:AC D K P l n Q fuel li e c'):AC D K P l n Q fuel li e c:=by
 have key:∀(fuel:Nat) (listed:Array Bool) (a:Act),rM n.ro D K P l.toArray (yu n Q) fuel listed a c'→rM n.ro D K P l.toArray (yu n Q) fuel listed a c:=fun fuel listed a h=>by
  cases fuel with
  | zero=>exact ⟨h.1,by rw [←hw]; exact h.2⟩
  | succ fuel=>
   refine ⟨fun h0=>by rw [←hw]; exact h.1 h0,fun i hi=>?_⟩;have:=h.2 i hi;rw [hw] at this;exact wpOpIn_mono (fun a w ⟨c2,h1,h2,h3,h4⟩=>⟨c2,h1,hA.trans h2,h3.imp id fun h5 h6=>h5 (hk h6),h4⟩) this
 exact key _ _ _ h
theorem WL.callP {ops:Array Oper} {rest:List Oper} {f:FuncId} {args:Array Value} {X:Cx→Value→Prop} (hg:o.guard=none) (hr:(execOp (ev n e) o).run P c.w= .ok (.enter f args) c.w)
  (hc:Calls P f args c.w (aT c X)) (h:∀v c',c.le c'→X c' v→WL P ops n Q rest (upO e o.dst v) c'.w):WL P ops n Q (o :: rest) e c.w:=
 WL.call hg hr (hc.mono fun x w ⟨v,c',h1,h2,h3,h4⟩=>⟨v,h1,by subst h2; exact h v c' h3 h4⟩)
theorem WL.gh {ops:Array Oper} {rest:List Oper} {c':Cx} (hw:c'.w=c.w) (h:WL P ops n Q rest e c'.w):WL P ops n Q rest e c.w:=hw▸ h
end
end Go.Lt
namespace Go.Lt
section
variable {P:Program} {c c':Cx} {G:Gm} {F:List En} {α:Type} {R:Rp α}
theorem rv {s:Sem Value} {w w':World} {v:Value} (h:s.run P w= .ok v w'):(do pure (Next.value (←s)):Sem Next).run P w= .ok (.value v) w':=by
  simp [h,Result.andThen]
theorem rs {s:Sem Unit} {w w':World} (h:s.run P w= .ok () w'):(do s; pure Next.skip:Sem Next).run P w= .ok .skip w':=by
  simp [h,Result.andThen]
theorem rx {ρ:Operand→Value} {o:Oper} {s:Sem Value} {w w':World} {v:Value} (hx:execOp ρ o=(do pure (Next.value (←s)):Sem Next)) (h:s.run P w= .ok v w'):(execOp ρ o).run P w= .ok (.value v) w':=by
  rw [hx];exact rv h
theorem Bh {v:Value} {xs:List α} {T E:TypeId} {k:IntKind} {i:Int} {x:α} (hT:P.underlying T=some (.slice E)) (hE:(P.info? E).map (·.size)=some R.size)
    (h:Sl R c v xs) (hi:idx xs i=some x) (w:World):(Instr.indexAt T v (.int k i)).run P w= .ok (.pointer (some ⟨sb v,so v+i.toNat * R.size,none⟩)) w:=by
  obtain ⟨a,cap,rfl,_,_,h4⟩:=h;unfold idx at hi;split at hi
  · rename_i h0
    have hlt:i.toNat < xs.length:=by
      rcases aP i.toNat xs.length with h | h
      · exact h
      · rw [aQ h] at hi; cases hi
    obtain ⟨b,off,l,rfl,_,_⟩:=h4 _ _ hi;obtain ⟨ti,hti,hsz⟩:=Option.map_eq_some_iff.1 hE;have hlt':i < xs.length:=by omega
    simp [Instr.indexAt,asIntOf,bH hT,h0,hlt',sizeOf,typeInfo,hti,hsz,sb,so,dj]
  · cases hi
theorem Ei {v:Value} {xs:List α} {T E ty:TypeId} (hT:P.underlying T=some (.slice E)) (h:Sl R c v xs) (w:World):
    (Builtin.len_ #[T] ty #[v]).run P w= .ok (.int .i64 (xs.length:Int)) w:=by
  obtain ⟨a,cap,rfl,_⟩:=h;simp [Builtin.len_,bH hT,goInt]
theorem Bg {T:TypeId} {b o:Nat} {v:Value} {d:TypeDesc} (hT:P.underlying T=some d) (hd:(match d with | .struct _ | .array _ _=>false | _=>true)=true)
    (h:Im c b o v):(Instr.loadAt T (.pointer (some ⟨b,o,none⟩))).run P c.w= .ok v c.w:=by
  cases d <;> simp_all [Instr.loadAt,Instr.sureAddr,loadVar,isAgg,bH hT,load,Sem.run,h.cell]
theorem rS (b:Nat) {w:World}:∀(l:List Value) (o i:Nat) (acc:Array Value),(∀j u,l[j]? = some u→w.cell? ⟨b,o+i+j,none⟩=some u)→
    (loadCellsFrom ⟨b,o,none⟩ i l.length acc).run P w= .ok (acc++l.toArray) w:=by
  intro l
  induction l with
  | nil=>intro o i acc h; simp [loadCellsFrom]
  | cons v l ih=>
    intro o i acc h;have h0:=h 0 v rfl;simp only [np] at h0;simp only [aA,loadCellsFrom,dj,load,tn,Sem.run,h0,Result.andThen];rw [ih o (i+1) (acc.push v) (fun j u hu=>by have:=h (j+1) u hu; rwa [show o+i+(j+1)=o+(i+1)+j by omega] at this)];simp
theorem nV {w:World} {T:TypeId} {b o:Nat} {l:List Value} (hT:(P.underlying T).map (fun d=>match d with | .struct _ | .array _ _=>true | _=>false)=some true) (hs:(P.info? T).map (·.size)=some l.length)
    (h:∀j u,l[j]? = some u→w.cell? ⟨b,o+j,none⟩=some u):(loadVar T ⟨b,o,none⟩).run P w= .ok (.agg l.toArray) w:=by
  obtain ⟨ti,hti,hsz⟩:=Option.map_eq_some_iff.1 hs;obtain ⟨d,hd,hag⟩:=Option.map_eq_some_iff.1 hT;have h1:=rS (P:=P) (w:=w) b l o 0 #[] (fun j u hu=>h j u hu);have h2:(isAgg T).run P w= .ok true w:=by
    cases d <;> simp_all [isAgg,bH hd]
  rw [←hsz] at h1;simp [loadVar,h2,sizeOf,typeInfo,hti,loadCells,h1,Result.andThen]
theorem Bf {T:TypeId} {b o:Nat} {l:List Value} (hT:(P.underlying T).map (fun d=>match d with | .struct _ | .array _ _=>true | _=>false)=some true) (hs:(P.info? T).map (·.size)=some l.length)
    (h:∀j u,l[j]? = some u→Im c b (o+j) u):(Instr.loadAt T (.pointer (some ⟨b,o,none⟩))).run P c.w= .ok (.agg l.toArray) c.w:=by
  simp only [Instr.loadAt,Instr.sureAddr,tn,zd,Result.andThen];exact nV hT hs fun j u hu=>(h j u hu).cell
theorem En.on.cell {e:En} (h:e.on c) {b:Nat} (hb:blk e.v=some b) (j:Nat):c.w.cell? ⟨b,j,none⟩=e.vs[j]? :=by
  simp [World.cell?,(h b hb).1]
theorem ry {T:TypeId} {e:En} {b j:Nat} {v:Value} {d:TypeDesc} (hT:P.underlying T=some d) (hd:(match d with | .struct _ | .array _ _=>false | _=>true)=true)
    (h:e.on c) (hb:blk e.v=some b) (hj:e.vs[j]? = some v):(Instr.loadAt T (.pointer (some ⟨b,j,none⟩))).run P c.w= .ok v c.w:=by
  have hc:c.w.cell? ⟨b,j,none⟩=some v:=by rw [h.cell hb,hj]
  cases d <;> simp_all [Instr.loadAt,Instr.sureAddr,loadVar,isAgg,bH hT,load,Sem.run]
theorem EO {T:TypeId} {e:En} {b j:Nat} {l:List Value} (hT:(P.underlying T).map (fun d=>match d with | .struct _ | .array _ _=>true | _=>false)=some true) (hs:(P.info? T).map (·.size)=some l.length)
    (h:e.on c) (hb:blk e.v=some b) (hl:(e.vs.drop j).take l.length=l):(Instr.loadAt T (.pointer (some ⟨b,j,none⟩))).run P c.w= .ok (.agg l.toArray) c.w:=by
  simp only [Instr.loadAt,Instr.sureAddr,tn,zd,Result.andThen];refine nV hT hs fun i u hu=>?_;have:(e.vs.drop j)[i]? = some u:=by
    rw [←hl,aO] at hu;split at hu
    · exact hu
    · cases hu
  rw [bO] at this;rw [h.cell hb,this]
def lY:List Value→Prop
  | []=>True
  | u :: l=>u.oneCell'=true∧lY l
theorem lY.mem:∀{l:List Value},lY l→∀u∈l,u.oneCell'=true
  | [],_,u,hu=>by cases hu
  | a :: l,h,u,hu=>by
    rcases List.mem_cons.1 hu with rfl | hu
    · exact h.1
    · exact h.2.mem u hu
theorem frozen?_row {w w':World} {b:Nat} {l m:Array Value} {T:TypeId} (h:w.heap[b]? = some (.cells l T (0,0))) (h':w'.heap[b]? = some (.cells m T (0,0))) (ho:∀k,k≠b→w'.heap[k]? = w.heap[k]?) (a:Addr):w'.frozen? a=w.frozen? a:=by
  by_cases hk:a.block=b
  · simp [World.frozen?,hk,h,h']
  · simp [World.frozen?,ho _ hk]
theorem Cx.row {b:Nat} {l m:List Value} {T:TypeId} (h:c.w.heap[b]? = some (.cells l.toArray T (0,0))) (lim:Nat) (hA:∀o,c.A b o↔lim≤o) (hs:∀o,o < lim→m[o]? = l[o]?) (lim':Nat) (hl:lim≤lim'):
    ∃c':Cx,c'.w=c.w.setRow b m.toArray∧c.but (fun k=>k=b) c'∧c'.w.heap[b]? = some (.cells m.toArray T (0,0))∧∀o,c'.A b o↔lim'≤o:=by
  have hbk:=Ao c.w b l.toArray m.toArray T (0,0) h;have hoth:∀k,k≠b→(c.w.setRow b m.toArray).heap[k]? = c.w.heap[k]? :=fun k hk=>Ga c.w b k _ hk;have hsz:(c.w.setRow b m.toArray).heap.size=c.w.heap.size:=by simp [World.setRow]
  refine ⟨⟨c.w.setRow b m.toArray,fun k o=>(k≠b∧c.A k o)∨(k=b∧lim'≤o),c.t⟩,rfl,⟨⟨rfl,rfl,by rw [hsz]; exact aw _,fun k o hk hnA=>?_,fun k hk hnA=>?_,fun a _ _=>frozen?_row h hbk hoth a,fun _ _ _ h=>h⟩,rfl,fun k hk hkb=>⟨hoth k hkb,fun o=>?_⟩⟩,hbk,fun o=>?_⟩
  · by_cases hkb:k=b
    · subst hkb
      have ho:o < lim:=by
        rcases aP o lim with h | h
        · exact h
        · exact absurd ((hA o).2 h) hnA
      refine ⟨?_,?_⟩
      · rw [cell_setRow_same c.w k o l.toArray _ T (0,0) h,fh c.w k o l.toArray T (0,0) h,bJ,bJ,hs o ho]
      · rintro (h | h)
        · exact h.1 rfl
        · omega
    · refine ⟨ma (w:=c.w) (a:=⟨k,o,none⟩) (hoth k hkb),?_⟩
      rintro (h | h)
      · exact hnA h.2
      · exact hkb h.1
  · by_cases hkb:k=b
    · subst hkb
      exact absurd ((hA lim).2 (aw _)) (hnA lim)
    · exact hoth k hkb
  · simp [hkb]
  · simp
theorem stE {T:TypeId} {e:En} {b o:Nat} {us:List Value} {v:Value} (h:e.on c) (hb:blk e.v=some b) (hlim:e.lim=0) (hv:v.cells.toList=us) (hs:(P.info? T).map (·.size)=some us.length) (h1:lY us)
    (hl:o+us.length≤e.vs.length):∃c',(Instr.storeAt T (.pointer (some ⟨b,o,none⟩)) v).run P c.w= .ok () c'.w∧c.but (fun k=>k=b) c'∧(⟨e.v,e.T,e.vs.take o++us++e.vs.drop (o+us.length),0⟩:En).on c':=by
  obtain ⟨ti,hti,hsz⟩:=Option.map_eq_some_iff.1 hs;have hh:=h b hb;have h2:=xW P b o e.T us 0 e.vs.toArray c.w hh.1 (by simpa using hl) h1.mem;have hz:v.cells.size=us.length:=by rw [←hv]; simp
  simp only [np] at h2;obtain ⟨c',e1,e2,e3,e4⟩:=Cx.row (m:=e.vs.take o++us++e.vs.drop (o+us.length)) hh.1 e.lim hh.2 (fun o ho=>by omega) 0 (by omega);refine ⟨c',?_,e2,fun b' hb'=>?_⟩
  · rw [e1]
    simp [Instr.storeAt,Instr.sureAddr,storeVar,sizeOf,typeInfo,hti,hsz,hz,hv,h2,Result.andThen]
  · simp only at hb'
    rw [hb] at hb';cases hb';exact ⟨e3,e4⟩
variable {ρ:Operand→Value} {o:Oper}
theorem Own.st {T:TypeId} {e:En} {b j:Nat} {us nw:List Value} {v:Value} (k:Nat) (O:Own c G F) (hx:execOp ρ o=(do Instr.storeAt T (.pointer (some ⟨b,j,none⟩)) v; pure Next.skip:Sem Next)) (hk:F[k]? = some e) (hb:blk e.v=some b) (hlim:e.lim=0)
    (hv:v.cells.toList=us) (hs:(P.info? T).map (·.size)=some us.length) (h1:lY us) (hl:Nat.ble (j+us.length) e.vs.length=true) (hn:e.vs.take j++us++e.vs.drop (j+us.length)=nw):
    ∃c',(execOp ρ o).run P c.w= .ok .skip c'.w∧c.le c'∧Own c' G (F.set k ⟨e.v,e.T,nw,0⟩):=by
  subst hn;obtain ⟨c',h1,h2,h3⟩:=stE (O.on k hk) hb hlim hv hs h1 (bp hl);exact ⟨c',by rw [hx]; exact rs h1,h2.le,O.set k hk h2 (fun b' hb'=>by rw [hb,hb']) h3 (fun b h=> .inl h)⟩
theorem Own.stG {T:TypeId} {e:En} {b j:Nat} {us nw:List Value} {v:Value} {g k:Nat} {E:List En} (r:Nat) (O:Own c G F) (hx:execOp ρ o=(do Instr.storeAt T (.pointer (some ⟨b,j,none⟩)) v; pure Next.skip:Sem Next)) (hE:G g k=E) (hr:E[r]? = some e) (hb:blk e.v=some b) (hlim:e.lim=0)
    (hv:v.cells.toList=us) (hs:(P.info? T).map (·.size)=some us.length) (h1:lY us) (hl:Nat.ble (j+us.length) e.vs.length=true) (hn:e.vs.take j++us++e.vs.drop (j+us.length)=nw):
    ∃c',(execOp ρ o).run P c.w= .ok .skip c'.w∧c.le c'∧Own c' (jl G g k (E.set r ⟨e.v,e.T,nw,0⟩)) F:=by
  subst hn;obtain ⟨c',h1,h2,h3⟩:=stE (O.gon hE r hr) hb hlim hv hs h1 (bp hl);exact ⟨c',by rw [hx]; exact rs h1,h2.le,O.setR r hE hr h2 (fun b' hb'=>by rw [hb,hb']) h3 (fun b h=> .inl h)⟩
theorem Cx.new (c:Cx) (vs:List Value) (T:TypeId) (lim:Nat):∃c':Cx,c'.w=c.w.alloc (.cells vs.toArray T)∧c.but (fun _=>False) c'∧c'.w.heap[c.w.heap.size]? = some (.cells vs.toArray T (0,0))∧c.w.heap.size < c'.w.heap.size∧∀o,c'.A c.w.heap.size o↔lim≤o:=
  ⟨⟨c.w.alloc (.cells vs.toArray T),fun k p=>(k < c.w.heap.size∧c.A k p)∨(k=c.w.heap.size∧lim≤p),c.t⟩,rfl,
   ⟨⟨rfl,rfl,by simp,fun k p hk hA=>⟨ma (w:=c.w) (a:=⟨k,p,none⟩) (dY _ _ _ hk),by rintro (h | h); exact hA h.2; omega⟩,fun k hk _=>dY _ _ _ hk,fun a _ _=>RowKit.frozen?_alloc_cells _ _ _ _,fun _ _ _ h=>h⟩,rfl,
    fun k hk _=>⟨dY _ _ _ hk,fun p=>⟨by rintro (h | h); exact h.2; omega,fun h=> .inl ⟨hk,h⟩⟩⟩⟩,heap_alloc_new c.w _,by simp,fun o=>by simp⟩
theorem Own.al {T:TypeId} {vs:List Value} (O:Own c G F) (hr:(execOp ρ o).run P c.w= .ok (.value (.pointer (some ⟨c.w.heap.size,0,none⟩))) (c.w.alloc (.cells vs.toArray T))):
    ∃v c',(execOp ρ o).run P c.w= .ok (.value v) c'.w∧c.le c'∧∃b,v= .pointer (some ⟨b,0,none⟩)∧Own c' G (⟨.pointer (some ⟨b,0,none⟩),T,vs,0⟩ :: F):=by
  obtain ⟨c',h1,h2,h3,_,h4⟩:=Cx.new c vs T 0;refine ⟨_,c',by rw [h1]; exact hr,h2.le,_,rfl,O.cons h2 (fun _=>id) (fun b hb=>?_) (fun b hb=>?_)⟩
  · simp only [blk,aM] at hb; subst hb; exact ⟨h3,h4⟩
  · simp only [blk,aM] at hb; omega
theorem Own.bx {T:TypeId} {vs:List Value} (O:Own c G F) (hr:(execOp ρ o).run P c.w= .ok (.value (.pointer (some ⟨c.w.heap.size,0,none⟩))) (c.w.alloc (.cells vs.toArray T))):
    ∃v c',(execOp ρ o).run P c.w= .ok (.value v) c'.w∧c.le c'∧∃b,v= .pointer (some ⟨b,0,none⟩)∧Own c' G F∧∀j u,vs[j]? = some u→Im c' b (0+j) u:=by
  obtain ⟨c',h1,h2,h3,h5,h4⟩:=Cx.new c vs T vs.length;refine ⟨_,c',by rw [h1]; exact hr,h2.le,_,rfl,O.keep h2,fun j u hu=>⟨h5,fun hA=>?_,?_⟩⟩
  · have h6:=(h4 _).1 hA
    have:=(List.getElem?_eq_some_iff.1 hu).1;omega
  · rw [fh _ _ _ _ _ _ h3,bJ,fU,hu]
def AR (R:Rp α) (c:Cx) (vs:List Value) (xs:List α):Prop:=∀i x,xs[i]? = some x→R.cells c ((vs.drop (i * R.size)).take R.size) x
def OA (R:Rp α) (c:Cx) (v:Value) (vs:List Value) (xs:List α):Prop:=
  0 < R.size∧((v= .slice none 0 0∧xs= [])∨∃g cap,v= .slice (some ⟨g,0,none⟩) xs.length cap∧xs.length≤cap∧cap≤maxLen∧cap * R.size≤vs.length)∧AR R c vs xs
def es (m:Bool) (R:Rp α) (v:Value) (E:TypeId) (vs:List Value) (xs:List α):En:=⟨v,E,vs,cond m 0 (xs.length * R.size)⟩
theorem AR.lw {vs:List Value} {xs:List α} (h:AR R c vs xs) (k:c.lw c'):AR R c' vs xs:=fun i x hx=>R.mono k (h i x hx)
theorem AR.mono {vs:List Value} {xs:List α} (h:AR R c vs xs) (k:c.le c'):AR R c' vs xs:=h.lw k.lw
theorem OA.lw {v:Value} {vs:List Value} {xs:List α} (h:OA R c v vs xs) (k:c.lw c'):OA R c' v vs xs:=⟨h.1,h.2.1,h.2.2.lw k⟩
theorem OA.mono {v:Value} {vs:List Value} {xs:List α} (h:OA R c v vs xs) (k:c.le c'):OA R c' v vs xs:=h.lw k.lw
theorem OA.nil (h0:0 < R.size):OA R c (.slice none 0 0) [] []:=⟨h0,.inl ⟨rfl,rfl⟩,fun i x h=>by simp at h⟩
theorem OA.one {v:Value} {vs:List Value} {xs:List α} (h:OA R c v vs xs):v.oneCell'=true:=by
  rcases h.2.1 with ⟨rfl,_⟩ | ⟨g,cap,rfl,_⟩ <;> rfl
theorem Cu {v:Value} {vs:List Value} {xs:List α} {T E ty:TypeId} (hT:P.underlying T=some (.slice E)) (h:OA R c v vs xs) (w:World):
    (Builtin.len_ #[T] ty #[v]).run P w= .ok (.int .i64 (xs.length:Int)) w:=by
  rcases h.2.1 with ⟨rfl,rfl⟩ | ⟨g,cap,rfl,_⟩ <;> simp [Builtin.len_,bH hT,goInt]
theorem fN {β:Type} {a b:List β} {i s:Nat} (h:i+s≤a.length):((a++b).drop i).take s=(a.drop i).take s:=by
  rw [gU (by omega),dA (by rw [be]; omega)]
theorem iF {i k s:Nat} (h:i < k):i * s+s≤k * s:=by
  have:=mb s (show i+1≤k by omega);rw [fi,mX] at this;exact this
theorem AR.len {vs:List Value} {xs:List α} (h:AR R c vs xs) (hp:0 < R.size):xs.length * R.size≤vs.length:=by
  rcases jh xs.length with h0 | h0
  · rw [h0,pN]; exact cZ _
  · have hx:xs[xs.length - 1]? = some xs[xs.length - 1]:=af (by omega)
    have:=R.len (h _ _ hx);rw [ay,be] at this;have e:xs.length * R.size=(xs.length - 1) * R.size+R.size:=by
      conv=>lhs; rw [show xs.length=xs.length - 1+1 by omega,fi,mX]
    omega
theorem OA.sl {v:Value} {E:TypeId} {vs:List Value} {xs:List α} (h:OA R c v vs xs) (hon:(es false R v E vs xs).on c):Sl R c v xs:=by
  obtain ⟨hp,h1,h2⟩:=h;rcases h1 with ⟨rfl,rfl⟩ | ⟨g,cap,rfl,hc,hm,hcs⟩
  · exact Sl.nl R c
  · obtain ⟨h3,h4⟩:=hon g rfl
    refine ⟨_,cap,rfl,hc,hm,fun i x hx=>⟨g,0,_,rfl,h2 i x hx,fun j u hu=>?_⟩⟩;have hj:j < R.size∧vs[i * R.size+j]? = some u:=by
      rw [aO] at hu;split at hu
      · rename_i hj
        exact ⟨hj,by rwa [bO] at hu⟩
      · cases hu
    have hi:=iF (s:=R.size) (List.getElem?_eq_some_iff.1 hx).1;refine ⟨(Array.getElem?_eq_some_iff.1 h3).1,fun hA=>?_,?_⟩
    · have:=(h4 _).1 hA
      simp only [es,IQ] at this;omega
    · rw [fh _ _ _ _ _ _ h3,bJ,fU]
      exact hj.2
theorem Own.frz {v:Value} {E:TypeId} {vs:List Value} {xs:List α} (k:Nat) (O:Own c G F) (hk:F[k]? = some (es true R v E vs xs)) (h:OA R c v vs xs):
    ∃c',c'.w=c.w∧c.le c'∧Own c' G (F.set k (es false R v E vs xs))∧Sl R c' v xs:=by
  have hon:=O.on k hk
  let c':Cx:=⟨c.w,fun b o=>c.A b o∧¬(blk v=some b∧o < xs.length * R.size),c.t⟩
  have hle:c.le c':=⟨rfl,rfl,aw _,fun _ _ _ h=>⟨rfl,fun h2=>h h2.1⟩,fun _ _ _=>rfl,fun _ _ _=>rfl,fun _ _ _ h=>h⟩;have hb:c.but (fun b=>blk v=some b) c':=⟨hle,rfl,fun b hb hd=>⟨rfl,fun o=>⟨fun h=>h.1,fun h=>⟨h,fun h2=>hd h2.1⟩⟩⟩⟩;have hon':(es false R v E vs xs).on c':=fun b hb=>by
    obtain ⟨h1,h2⟩:=hon b hb;refine ⟨h1,fun o=>?_⟩;have hb':blk v=some b:=hb;simp only [c',hb',uw,es,IQ];rw [h2 o];simp [es]
  exact ⟨c',rfl,hle,O.set k hk hb (fun b h=>h) hon' (fun b h=> .inl h),(h.mono hle).sl hon'⟩
theorem Own.slf {v:Value} {E:TypeId} {vs:List Value} {xs:List α} (k:Nat) (O:Own c G F) (hk:F[k]? = some (es false R v E vs xs)) (h:OA R c v vs xs):Sl R c v xs:=h.sl (O.on k hk)
theorem Sl.flat {u:Value} {ys:List α} (h:Sl R c u ys):∃nw:List Value,nw.length=ys.length * R.size∧(∀j w,nw[j]? = some w→Im c (sb u) (so u+j) w)∧(∀w∈nw,w.oneCell'=true)∧
    (∀i x,ys[i]? = some x→R.cells c ((nw.drop (i * R.size)).take R.size) x):=by
  suffices ∀k,k≤ys.length→∃nw:List Value,nw.length=k * R.size∧(∀j w,nw[j]? = some w→Im c (sb u) (so u+j) w)∧(∀w∈nw,w.oneCell'=true)∧
      (∀i x,i < k→ys[i]? = some x→R.cells c ((nw.drop (i * R.size)).take R.size) x) by
    obtain ⟨nw,h1,h2,h3,h4⟩:=this ys.length (aw _);exact ⟨nw,h1,h2,h3,fun i x hx=>h4 i x (List.getElem?_eq_some_iff.1 hx).1 hx⟩
  intro k
  induction k with
  | zero=>exact fun _=>⟨[],by simp,by simp,by simp,fun i x hi=>by omega⟩
  | succ k ih=>
    intro hk;obtain ⟨nw,h1,h2,h3,h4⟩:=ih (by omega);have hx:ys[k]? = some ys[k]:=af (by omega);obtain ⟨l,hl,hc⟩:=h.at hx;have hll:=R.len hl;refine ⟨nw++l,by rw [ai,h1,hll,fi,mX],fun j w hw=>?_,fun w hw=>?_,fun i x hi hxi=>?_⟩
    · rcases aP j nw.length with hj | hj
      · rw [ax hj] at hw
        exact h2 j w hw
      · rw [aI hj] at hw
        have:=hc _ _ hw;rw [h1] at this
        rwa [show so u+k * R.size+(j - k * R.size)=so u+j by omega] at this
    · rcases List.mem_append.1 hw with hw | hw
      · exact h3 w hw
      · exact R.one hl w hw
    · rcases aP i k with hik | hik
      · rw [fN (by rw [h1]; exact iF hik)]
        exact h4 i x hik hxi
      · obtain rfl:i=k:=by omega
        rw [hx] at hxi;cases hxi;rw [←h1,jj,aK (by omega)];exact hl
theorem oV (z:Array Value) (n:Nat):(Builtin.zeroCells z n).size=n * z.size:=by simp [Builtin.zeroCells]
theorem vF {E t ty:TypeId} {v:Value} {vs:List Value} {xs ys zs:List α} {z:Value} {by_:Nat} {m:Bool} {ua:Option Addr} {ucap:Nat} {nw:List Value} (k:Nat) (O:Own c G F) (hk:F[k]? = some (es m R v E vs xs)) (h:OA R c v vs xs)
    (n1:nw.length=ys.length * R.size) (n2:ys≠ []→∃ub uo,ua=some ⟨ub,uo,none⟩∧∀j w,nw[j]? = some w→c.w.cell? ⟨ub,uo+j,none⟩=some w) (n3:∀w∈nw,w.oneCell'=true) (n4:∀i x,ys[i]? = some x→R.cells c ((nw.drop (i * R.size)).take R.size) x) (happ:app xs ys=some zs)
    (hT:P.underlying t=some (.slice E)) (hi:(P.info? E).map (fun i=>(i.zero,i.size,i.bytes))=some (some z,R.size,by_)) (hz:z.cells.size=R.size) (hby:Nat.ble by_ 128=true):
    ∃v' c',(Builtin.append_ #[t,t] ty #[v,.slice ua ys.length ucap]).run P c.w= .ok v' c'.w∧c.le c'∧∃vs',Own c' G (F.set k (es m R v' E vs' zs))∧OA R c' v' vs' zs:=by
  have hby:=bp hby;have hfar:xs.length+ys.length≤far∧xs++ys=zs:=by
    unfold app at happ;split at happ
    · exact ⟨by assumption,by simpa using happ⟩
    · cases happ
  obtain ⟨hfar,rfl⟩:=hfar;unfold far at hfar;obtain ⟨ti,hti,hzz⟩:=Option.map_eq_some_iff.1 hi;simp only [fM] at hzz;obtain ⟨hz1,hz2,hz3⟩:=hzz;have hon:=O.on k hk;have hklt:=(List.getElem?_eq_some_iff.1 hk).1;have hh:=h;obtain ⟨hp,h1,h2⟩:=h;by_cases hys:ys= []
  · subst hys
    refine ⟨v,c,?_,Cx.le.refl c,vs,?_,by rw [dI]; exact hh⟩
    · rcases h1 with ⟨rfl,rfl⟩ | ⟨g,cap,rfl,hcap,_⟩
      · cases ua <;> simp [Builtin.append_,bH hT,sizeOf,typeInfo,hti,Builtin.lenOf,Builtin.firstCells,loadCells,loadCellsFrom,storeCells]
      · cases ua <;> simp [Builtin.append_,bH hT,sizeOf,typeInfo,hti,Builtin.lenOf,Builtin.firstCells,loadCells,loadCellsFrom,storeCells,hcap]
    · rw [dI]
      have:F.set k (es m R v E vs xs)=F:=by
        apply bQ;intro j;by_cases hj:k=j
        · subst hj; rw [bi hklt,hk]
        · rw [aR hj]
      rw [this]; exact O
  · have hpos:0 < ys.length:=by
      rcases jh ys.length with h | h
      · exact absurd (cf h) hys
      · exact h
    obtain ⟨ub,uo,hua,n5⟩:=n2 hys;subst hua;have hcells:∀j w,nw[j]? = some w→c.w.cell? ((⟨ub,uo,none⟩:Addr).add j)=some w:=fun j w hw=>by
      rw [dj];exact n5 j w hw
    have hN:(xs++ys).length=xs.length+ys.length:=ai;have hxl:=h2.len hp;have helem:∀(c':Cx) (tail:List Value),c.le c'→AR R c' (vs.take (xs.length * R.size)++nw++tail) (xs++ys):=fun c' tail hcc i x hx=>by
      have hlt:(vs.take (xs.length * R.size)).length=xs.length * R.size:=by rw [ay]; omega
      rcases aP i xs.length with hi' | hi'
      · have hm:=iF (s:=R.size) hi'
        rw [aC,fN (by rw [hlt]; exact hm)];rw [ax hi'] at hx;have:=h2 i x hx;rw [fW,ji,show min R.size (xs.length * R.size - i * R.size)=R.size by omega];exact R.mono hcc this
      · rw [aI hi'] at hx
        have h4:=n4 _ _ hx;have hiy:=iF (s:=R.size) (List.getElem?_eq_some_iff.1 hx).1;have e:i * R.size=xs.length * R.size+(i - xs.length) * R.size:=by rw [←fi]; congr 1; omega
        have e2:(vs.take (xs.length * R.size)++(nw++tail)).drop (xs.length * R.size)=nw++tail:=by
          conv=>lhs; arg 1; rw [←hlt]
          exact jj
        rw [aC,e,←da,e2,fN (by rw [n1]; omega)];exact R.mono hcc h4
    have hbytes:(xs.length+ys.length) * ti.bytes≤140737488355328:=by
      rw [hz3];exact cx (Nat.mul_le_mul hfar hby) (by decide)
    have fresh:∀old,old < xs.length+ys.length→
        ∃v' c',Result.ok (α:=Value) (.slice (some ⟨c.w.heap.size,0,none⟩) (xs.length+ys.length) (grownCap c.w (xs.length+ys.length) old E)) (c.w.drew.alloc (.cells ((vs.take (xs.length * R.size)).toArray++nw.toArray++Builtin.zeroCells z.cells (grownCap c.w (xs.length+ys.length) old E - (xs.length+ys.length))) E))= .ok v' c'.w∧c.le c'∧
        ∃vs',Own c' G (F.set k (es m R v' E vs' (xs++ys)))∧OA R c' v' vs' (xs++ys):=by
      intro old ho;have hge:=AK c.w (xs.length+ys.length) old E;have hcm:grownCap c.w (xs.length+ys.length) old E≤maxLen:=qa c.w _ old E (by unfold maxLen; omega);have hd:=Cx.drew_le c;obtain ⟨c',e1,e2,e3,e4,e5⟩:=Cx.new ⟨c.w.drew,c.A,c.t⟩ ((vs.take (xs.length * R.size))++nw++(Builtin.zeroCells z.cells (grownCap c.w (xs.length+ys.length) old E - (xs.length+ys.length))).toList) E (cond m 0 ((xs++ys).length * R.size));have ea:((vs.take (xs.length * R.size))++nw++(Builtin.zeroCells z.cells (grownCap c.w (xs.length+ys.length) old E - (xs.length+ys.length))).toList).toArray=(vs.take (xs.length * R.size)).toArray++nw.toArray++Builtin.zeroCells z.cells (grownCap c.w (xs.length+ys.length) old E - (xs.length+ys.length)):=by
        apply DZ; simp
      refine ⟨.slice (some ⟨c.w.heap.size,0,none⟩) (xs.length+ys.length) (grownCap c.w (xs.length+ys.length) old E),c',by rw [e1,ea],hd.le.trans e2.le,(vs.take (xs.length * R.size))++nw++(Builtin.zeroCells z.cells (grownCap c.w (xs.length+ys.length) old E - (xs.length+ys.length))).toList,Own.set (O.keep hd) k hk e2 (fun b (h:False)=>h.elim) (fun b hb=>?_) (fun b hb=>?_),hp,.inr ⟨c.w.heap.size,_,by rw [hN],by rw [hN]; exact hge,hcm,?_⟩,?_⟩
      · simp only [es,blk,aM] at hb; subst hb; exact ⟨e3,e5⟩
      · simp only [es,blk,aM] at hb; subst hb; exact .inr (aw _)
      · simp only [ai,IA,oV,hz,n1,ay]
        have:grownCap c.w (xs.length+ys.length) old E * R.size=xs.length * R.size+ys.length * R.size+(grownCap c.w (xs.length+ys.length) old E - (xs.length+ys.length)) * R.size:=by
          rw [←fi,←fi]; congr 1; omega
        rw [this,cq hxl];exact aw _
      · exact helem c' _ (hd.le.trans e2.le)
    rcases h1 with ⟨rfl,rfl⟩ | ⟨g,cap,rfl,hnc,hcm,hcs⟩
    · have hr:=run_append_nil (P:=P) c.w t ty E ti z hT hti hz1 ⟨ub,uo,none⟩ ys.length ucap nw (by rw [n1,hz2]) hcells hpos (by simp at hfar; omega) (by have:=hbytes; simp at this; omega)
      have:=fresh 0 (by simpa using hpos);simp only [aH,fU,pN,eU,xF,bm] at this hr⊢;rw [hr];simpa using this
    · obtain ⟨hg,hA⟩:=hon g rfl
      by_cases hroom:xs.length+ys.length≤cap
      · have hfit:xs.length * R.size+nw.length≤vs.length:=by
          rw [n1,←fi];exact cx (mb _ hroom) hcs
        have hr:=Bi (P:=P) c.w t ty E ti hT hti g xs.length cap vs.toArray hg ⟨ub,uo,none⟩ ys.length ucap nw (by rw [n1,hz2]) hcells n3 hroom (by rw [hz2]; simpa using hfit);rw [hz2] at hr;simp only at hr;obtain ⟨c',e1,e2,e3,e4⟩:=Cx.row (m:=vs.take (xs.length * R.size)++nw++vs.drop (xs.length * R.size+nw.length)) hg _ hA (fun o ho=>by
          have ho:o < xs.length * R.size:=by
            cases m
            · exact ho
            · exact absurd ho (tK _)
          rw [aC,ax (by rw [ay]; omega),aO,ae ho];rfl) (cond m 0 ((xs++ys).length * R.size)) (by
            cases m
            · simp only [es,IQ]; exact mb _ (by rw [hN]; omega)
            · exact aw _)
        refine ⟨.slice (some ⟨g,0,none⟩) (xs.length+ys.length) cap,c',by rw [hr,e1],e2.le,vs.take (xs.length * R.size)++nw++vs.drop (xs.length * R.size+nw.length),Own.set O k hk e2 (fun b h=>by subst h; rfl) (fun b hb=>?_) (fun b hb=> .inl hb),hp,.inr ⟨g,cap,by rw [hN],by rw [hN]; exact hroom,hcm,?_⟩,helem c' _ e2.le⟩
        · simp only [es,blk,aM] at hb; subst hb; exact ⟨e3,e4⟩
        · simp only [ai,be,ay]
          omega
      · have uZ:∀j w,(vs.take (xs.length * R.size))[j]? = some w→c.w.cell? ((⟨g,0,none⟩:Addr).add j)=some w:=fun j w hw=>by
          rw [dj,fU,fh _ _ _ _ _ _ hg,bJ];rw [aO] at hw;split at hw
          · exact hw
          · cases hw
        have hr:=Jp (P:=P) c.w t ty E ti z hT hti hz1 ⟨g,0,none⟩ xs.length cap (vs.take (xs.length * R.size)) (by rw [ay,hz2]; omega) uZ ⟨ub,uo,none⟩ ys.length ucap nw (by rw [n1,hz2]) hcells (by omega) (by omega) (Dk (by omega) hbytes);rw [hr];exact fresh cap (by omega)
theorem B6 {E t ty:TypeId} {v u:Value} {vs:List Value} {xs ys zs:List α} {z:Value} {by_:Nat} {m:Bool} (k:Nat) (O:Own c G F) (hk:F[k]? = some (es m R v E vs xs)) (h:OA R c v vs xs) (hS:Sl R c u ys) (happ:app xs ys=some zs)
    (hT:P.underlying t=some (.slice E)) (hi:(P.info? E).map (fun i=>(i.zero,i.size,i.bytes))=some (some z,R.size,by_)) (hz:z.cells.size=R.size) (hby:Nat.ble by_ 128=true):
    ∃v' c',(Builtin.append_ #[t,t] ty #[v,u]).run P c.w= .ok v' c'.w∧c.le c'∧∃vs',Own c' G (F.set k (es m R v' E vs' zs))∧OA R c' v' vs' zs:=by
  obtain ⟨nw,n1,n2,n3,n4⟩:=hS.flat;obtain ⟨ua,ucap,rfl,hu1,hu2,hu3⟩:=hS;refine vF k O hk h n1 (fun hys=>?_) n3 n4 happ hT hi hz hby;have hpos:0 < ys.length:=by
    rcases jh ys.length with h | h
    · exact absurd (cf h) hys
    · exact h
  obtain ⟨ub,uo,_,hua,_⟩:=hu3 0 ys[0] (af hpos);subst hua;exact ⟨ub,uo,rfl,fun j w hw=>(n2 j w hw).cell⟩
end
end Go.Lt
namespace Go.Lt
section
variable {P:Program} {c c':Cx} {G:Gm} {F:List En} {α:Type} {R:Rp α} {ρ:Operand→Value} {o:Oper}
variable {n:Fr} {ops:Array Oper} {Q:Exit→(Nat→Value)→World→Prop} {rest:List Oper} {e:Nat→Value} {D:List Nat} {K:Cx→Prop} {l:List Oper} {fuel:Nat} {li:List Bool}
theorem WL.mem {X:Value→Cx→Prop} (hg:o.guard=none) (hr:∃v c',(execOp (ev n e) o).run P c.w= .ok (.value v) c'.w∧c.le c'∧X v c')
  (h:∀v c',c.le c'→X v c'→WL P ops n Q rest (upO e o.dst v) c'.w):WL P ops n Q (o :: rest) e c.w:=by
 obtain ⟨v,c',h1,h2,h3⟩:=hr;exact WL.val hg h1 (h v c' h2 h3)
theorem WL.memD {X:Cx→Prop} (hg:o.guard=none) (hr:∃c',(execOp (ev n e) o).run P c.w= .ok .skip c'.w∧c.le c'∧X c')
  (h:∀c',c.le c'→X c'→WL P ops n Q rest (upO e o.dst undef) c'.w):WL P ops n Q (o :: rest) e c.w:=by
 obtain ⟨c',h1,h2,h3⟩:=hr;exact WL.do_ hg h1 (h c' h2 h3)
theorem Go1.mem (i:Nat) {X:Value→Cx→Prop} (hi:l.toArray[i]? = some o) (hsl:fb n l=true) (hw:iD l.toArray n e o=true) (hr:∃v c',(execOp (ev n e) o).run P c.w= .ok (.value v) c'.w∧c.le c'∧X v c')
  (h:∀v c',c.le c'→X v c'→(D.contains i=true∨K c')∧AC D K P l n Q fuel (li.set i true) (upO e o.dst v) c'):Go1 D K P l n Q fuel li e c i:=by
 obtain ⟨v,c',h1,h2,h3⟩:=hr;have:=h v c' h2 h3;exact Go1.val hi hsl hw h1 h2 this.1 this.2
theorem Go1.memD (i:Nat) {X:Cx→Prop} (hi:l.toArray[i]? = some o) (hsl:fb n l=true) (hw:iD l.toArray n e o=true) (hr:∃c',(execOp (ev n e) o).run P c.w= .ok .skip c'.w∧c.le c'∧X c')
  (h:∀c',c.le c'→X c'→(D.contains i=true∨K c')∧AC D K P l n Q fuel (li.set i true) (upO e o.dst undef) c'):Go1 D K P l n Q fuel li e c i:=by
 obtain ⟨c',h1,h2,h3⟩:=hr;have:=h c' h2 h3;exact Go1.do_ hi hsl hw h1 h2 this.1 this.2
theorem Go1.callP (i:Nat) {f:FuncId} {args:Array Value} {X:Cx→Value→Prop} (hi:l.toArray[i]? = some o) (hsl:fb n l=true) (hw:iD l.toArray n e o=true)
  (hrun:(execOp (ev n e) o).run P c.w= .ok (.enter f args) c.w) (hc:Calls P f args c.w (aT c X))
  (h:∀v c',c.le c'→X c' v→(D.contains i=true∨K c')∧AC D K P l n Q fuel (li.set i true) (upO e o.dst v) c'):Go1 D K P l n Q fuel li e c i:=Go1.call hi hsl hw hrun hc h
theorem AC.one (i:Nat) (hr:Region.ready .any l.toArray li.toArray= [i]) (h:Go1 D K P l n Q fuel li e c i):AC D K P l n Q (fuel+1) li e c:=AC.many [i] (by simp) hr ⟨h,trivial⟩
theorem Sl.form {v:Value} {xs:List α} (h:Sl R c v xs):∃a n k,v= .slice a n k:=by
 obtain ⟨a,cap,h,_⟩:=h; exact ⟨_,_,_,h⟩
theorem OA.form {v:Value} {vs:List Value} {xs:List α} (h:OA R c v vs xs):∃a n k,v= .slice a n k:=by
 rcases h.2.1 with ⟨h,_⟩ | ⟨g,cap,h,_⟩ <;> exact ⟨_,_,_,h⟩
theorem Pt.form {g:Nat} {v:Value} {p:Option Nat} (h:Pt g c v p):∃a,v= .pointer a:=by
 cases p with
 | none=>exact ⟨_,h⟩
 | some p=>obtain ⟨b,h,_⟩:=h; exact ⟨_,h⟩
theorem va (v:Value) {w:World} (h:WL P ops n Q rest (upO e o.dst v) w) (hg:o.guard=none:=by exact rfl) (hr:(execOp (ev n e) o).run P w= .ok (.value v) w:=by kernel_rfl):WL P ops n Q (o :: rest) e w:=WL.val0 hg hr h
theorem vb {t b:Bool} {w:World} (ht:t=b) (h:WL P ops n Q rest (upO e o.dst (.bool b)) w) (hg:o.guard=none:=by exact rfl) (hr:(execOp (ev n e) o).run P w= .ok (.value (.bool t)) w:=by kernel_rfl):WL P ops n Q (o :: rest) e w:=WL.valb0 ht hg hr h
theorem ps {l:List Oper} {w:World} (h:WL P l.toArray n Q rest (upO e o.dst undef) w) (hs:fb n l=true:=by kernel_rfl) (hw:iD l.toArray n e o=false:=by kernel_rfl):WL P l.toArray n Q (o :: rest) e w:=WL.pass hs hw h
theorem wn {l:List Oper} {w:World} (h:WL P l.toArray n Q ({ o with guard:=none} :: rest) e w) (hs:fb n l=true:=by kernel_rfl) (hw:iD l.toArray n e o=true:=by kernel_rfl):WL P l.toArray n Q (o :: rest) e w:=WL.want hs hw h
theorem ta (i:Nat) (v:Value) (h:AC D K P l n Q fuel (li.set i true) (upO e o.dst v) c) (hi:l.toArray[i]? = some o:=by exact rfl) (ht:tk l n li i=true:=by kernel_rfl) (hw:iD l.toArray n e o=true:=by kernel_rfl)
  (hy:∀w,(execOp (ev n e) o).run P w= .ok (.value v) w:=by intro w; kernel_rfl):AC D K P l n Q (fuel+1) li e c:=AC.take i v hi ht hw (fun c' _=>hy c'.w) h
theorem sr {b:Code} {id:Nat} {l:List Oper} {w:World} (h:WL P l.toArray n (pR (W P n b Q) Q) l e w):W P n ((Code.region id l.toArray false).seq b) Q e w:=W.seq (W.region h)
theorem wln {K:(Nat→Value)→World→Prop} {Q:Exit→(Nat→Value)→World→Prop} {w:World} (h:K e w):WL P ops n (pR K Q) [] e w:=WL.nil (nrm h)
theorem vv {o':Oper} (v:Value) {w:World} (h:WL P ops n Q rest (upO (upO e o.dst v) o'.dst v) w) (hg:o.guard=none:=by exact rfl) (hr:(execOp (ev n e) o).run P w= .ok (.value v) w:=by kernel_rfl) (hg':o'.guard=none:=by exact rfl) (hr':(execOp (ev n (upO e o.dst v)) o').run P w= .ok (.value v) w:=by kernel_rfl):WL P ops n Q (o :: o' :: rest) e w:=va v (va v h hg' hr') hg hr
theorem wa {l:List Oper} (v:Value) {w:World} (h:WL P l.toArray n Q rest (upO e o.dst v) w) (hs:fb n l=true:=by kernel_rfl) (hw:iD l.toArray n e o=true:=by kernel_rfl) (hr:(execOp (ev n e) { o with guard:=none}).run P w= .ok (.value v) w:=by kernel_rfl):WL P l.toArray n Q (o :: rest) e w:=wn (va v h rfl hr) hs hw
theorem pz {l:List Oper} {o':Oper} {w:World} (h:WL P l.toArray n Q rest (upO (upO e o.dst undef) o'.dst undef) w) (hs:fb n l=true:=by kernel_rfl) (hw:iD l.toArray n e o=false:=by kernel_rfl) (hw':iD l.toArray n (upO e o.dst undef) o'=false:=by kernel_rfl):WL P l.toArray n Q (o :: o' :: rest) e w:=ps (ps h hs hw') hs hw
theorem OA.blk {v:Value} {vs:List Value} {xs:List α} {i:Int} {x:α} (h:OA R c v vs xs) (hi:idx xs i=some x):Go.Lt.blk v=some (sb v):=by
 rcases h.2.1 with ⟨_,rfl⟩ | ⟨g,cap,rfl,_⟩
 ·have:=p9 hi; simp at this; omega
 ·rfl
theorem zq {v:Value} {vs:List Value} {xs:List α} {T E:TypeId} {k:IntKind} {i:Int} {x:α} (hT:P.underlying T=some (.slice E)) (hE:(P.info? E).map (·.size)=some R.size)
  (h:OA R c v vs xs) (hi:idx xs i=some x) (w:World):(Instr.indexAt T v (.int k i)).run P w= .ok (.pointer (some ⟨sb v,i.toNat * R.size,none⟩)) w:=by
 obtain ⟨h1,h2⟩:=p9 hi;rcases h.2.1 with ⟨_,rfl⟩ | ⟨g,cap,rfl,_⟩
 ·simp at h2; omega
 ·obtain ⟨ti,hti,hsz⟩:=Option.map_eq_some_iff.1 hE;simp [Instr.indexAt,asIntOf,bH hT,h1,h2,sizeOf,typeInfo,hti,hsz,sb,dj]
theorem OA.at {v:Value} {vs:List Value} {xs:List α} {i:Int} {x:α} (h:OA R c v vs xs) (hi:idx xs i=some x):∃l,R.cells c l x∧(vs.drop (i.toNat * R.size)).take R.size=l:=⟨_,h.2.2 _ _ (bz hi),rfl⟩
theorem at1 {vs l:List Value} {p n j:Nat} {u:Value} (h:(vs.drop p).take n=l) (hj:l[j]? = some u):vs[p+j]? = some u:=by
 subst h;rw [aO] at hj;split at hj
 ·rwa [bO] at hj
 ·cases hj
theorem at2 {vs l l':List Value} {p n j:Nat} (h:(vs.drop p).take n=l) (hj:(l.drop j).take l'.length=l'):(vs.drop (p+j)).take l'.length=l':=by
 subst h
 conv=>rhs; rw [←hj]
 rw [fW,da,ji];have h1:=mN List.length hj;rw [fW,da,ji,ay] at h1
 congr 1
 omega
theorem Own.stO {T E:TypeId} {v:Value} {vs:List Value} {xs xs':List α} {i:Int} {x x':α} {j:Nat} {us l l':List Value} {u:Value} (k:Nat) (O:Own c G F) (hx:execOp ρ o=(do Instr.storeAt T (.pointer (some ⟨sb v,i.toNat * R.size+j,none⟩)) u; pure Next.skip:Sem Next))
  (hk:F[k]? = some (es true R v E vs xs)) (h:OA R c v vs xs) (hset:nF xs i x'=some xs') (hm:(vs.drop (i.toNat * R.size)).take R.size=l) (hv:u.cells.toList=us) (hs:(P.info? T).map (·.size)=some us.length) (h1:lY us)
  (hl:Nat.ble (j+us.length) R.size=true) (hn:l.take j++us++l.drop (j+us.length)=l') (hx':R.cells c l' x'):
  ∃c',(execOp ρ o).run P c.w= .ok .skip c'.w∧c.le c'∧∃vs',Own c' G (F.set k (es true R v E vs' xs'))∧OA R c' v vs' xs':=by
 have hl:=bp hl;unfold nF at hset;split at hset
 ·rename_i hi
  cases hset;have hbk:Go.Lt.blk v=some (sb v):=by
   rcases h.2.1 with ⟨_,rfl⟩ | ⟨g,cap,rfl,_⟩
   ·exfalso; simp at hi; omega
   ·rfl
  have hp:=h.1;have hxl:=h.2.2.len hp;have hms:=iF (s:=R.size) (show i.toNat < xs.length by omega);obtain ⟨c',r1,r2,r3⟩:=stE (P:=P) (T:=T) (o:=i.toNat * R.size+j) (O.on k hk) hbk rfl hv hs h1 (by simp only [es]; omega);have hlen:(vs.take (i.toNat * R.size+j)++us++vs.drop (i.toNat * R.size+j+us.length)).length=vs.length:=by
   simp only [ai,ay,be]; omega
  refine ⟨c',by rw [hx]; exact rs r1,r2.le,_,O.set k hk r2 (fun b hb=>by rw [hb]; exact hbk) (e':=es true R v E (vs.take (i.toNat * R.size+j)++us++vs.drop (i.toNat * R.size+j+us.length)) (xs.set i.toNat x')) r3 (fun b h=> .inl h),hp,?_,fun q y hy=>?_⟩
  ·rcases h.2.1 with ⟨_,rfl⟩ | ⟨g,cap,h2,h3,h4,h5⟩
   ·exfalso; simp at hi; omega
   ·exact .inr ⟨g,cap,by rw [bY]; exact h2,by rw [bY]; exact h3,h4,by rw [hlen]; exact h5⟩
  ·by_cases hq:q=i.toNat
   ·subst hq;rw [bi (by omega)] at hy;cases hy;have:((vs.take (i.toNat * R.size+j)++us++vs.drop (i.toNat * R.size+j+us.length)).drop (i.toNat * R.size)).take R.size=l':=by
     rw [←hn,←hm];rw [aC,gU (by rw [ay]; omega),fW];have e1:i.toNat * R.size+j - i.toNat * R.size=j:=by omega
     rw [e1,ji,cq (by omega),aC,fW,da,Ac,Ac];have h6:((vs.drop (i.toNat * R.size)).take j).length=j:=by rw [ay,be]; omega
     rw [h6,aK (by omega),aK (l:=us) (by omega)]
     congr 2
     rw [rL]
     congr 1
     omega
    rw [this];exact R.mono r2.le hx'
   ·rw [aR (rd hq)] at hy;have hold:=h.2.2 q y hy;have hqm:=iF (s:=R.size) (List.getElem?_eq_some_iff.1 hy).1;have:((vs.take (i.toNat * R.size+j)++us++vs.drop (i.toNat * R.size+j+us.length)).drop (q * R.size)).take R.size=(vs.drop (q * R.size)).take R.size:=by
     rcases aP q i.toNat with hlt | hge
     ·have:=iF (s:=R.size) hlt;rw [aC,fN (by rw [ay]; omega),fW,ji,cq (by omega)]
     ·have:=iF (s:=R.size) (show i.toNat < q by omega);have h7:(vs.take (i.toNat * R.size+j)++us).length=i.toNat * R.size+j+us.length:=by rw [ai,ay]; omega
      rw [show q * R.size=(vs.take (i.toNat * R.size+j)++us).length+(q * R.size - (i.toNat * R.size+j+us.length)) by omega,←da,jj,da]
      congr 2
      omega
    rw [this];exact R.mono r2.le hold
 ·cases hset
theorem Own.stW {T E:TypeId} {v:Value} {vs:List Value} {xs xs':List α} {i:Int} {x':α} {us:List Value} {u:Value} (k:Nat) (O:Own c G F) (hx:execOp ρ o=(do Instr.storeAt T (.pointer (some ⟨sb v,i.toNat * R.size,none⟩)) u; pure Next.skip:Sem Next))
  (hk:F[k]? = some (es true R v E vs xs)) (h:OA R c v vs xs) (hset:nF xs i x'=some xs') (hv:u.cells.toList=us) (hs:(P.info? T).map (·.size)=some us.length) (h1:lY us) (hl:us.length=R.size) (hx':R.cells c us x'):
  ∃c',(execOp ρ o).run P c.w= .ok .skip c'.w∧c.le c'∧∃vs',Own c' G (F.set k (es true R v E vs' xs'))∧OA R c' v vs' xs':=by
 have hi:0≤i∧i < xs.length:=by
  unfold nF at hset;split at hset
  ·assumption
  ·cases hset
 have hc:=h.2.2 i.toNat xs[i.toNat] (af (by omega));have hlen:=R.len hc;refine Own.stO (x:=xs[i.toNat]) (j:=0) (us:=us) (l':=us) k O (by rw [hx]; rfl) hk h hset rfl hv hs h1 ?_ ?_ hx'
 ·rw [fU,hl]; exact nE (aw _)
 ·rw [eU,bm,fU,Hl (by rw [hlen,hl]; exact aw _),dI]
theorem Own.app {E t ty:TypeId} {v u:Value} {vs:List Value} {xs ys zs:List α} {z:Value} {by_:Nat} {m:Bool} (k:Nat) (O:Own c G F) (hk:F[k]? = some (es m R v E vs xs)) (h:OA R c v vs xs) (hS:Sl R c u ys) (happ:app xs ys=some zs)
  (hT:P.underlying t=some (.slice E)) (hi:(P.info? E).map (fun i=>(i.zero,i.size,i.bytes))=some (some z,R.size,by_)) (hz:z.cells.size=R.size) (hby:Nat.ble by_ 128=true)
  (hx:execOp ρ o=(do pure (Next.value (←Builtin.append_ #[t,t] ty #[v,u])):Sem Next)):
  ∃v' c',(execOp ρ o).run P c.w= .ok (.value v') c'.w∧c.le c'∧∃vs',Own c' G (F.set k (es m R v' E vs' zs))∧OA R c' v' vs' zs:=by
 obtain ⟨v',c',h1,h2,h3⟩:=B6 (P:=P) (t:=t) (ty:=ty) k O hk h hS happ hT hi hz hby;exact ⟨v',c',rx hx h1,h2,h3⟩
theorem zu {i:Int} {x:α} {xs:List α} (h:rep i x=some xs):i≤far:=by
 unfold rep at h;split at h
 ·rename_i h'; exact h'.2
 ·cases h
theorem Gg {i:Int} {x:α} {xs:List α} (h:rep i x=some xs):0≤i:=by
 unfold rep at h;split at h
 ·rename_i h'; exact h'.1
 ·cases h
def nQ (R:Rp α) (c:Cx):List (List Value)→List α→Prop
 | [],[]=>True
 | l :: ls,x :: xs=>R.cells c l x∧nQ R c ls xs
 | _,_=>False
theorem nQ.len:∀{ls:List (List Value)} {xs:List α},nQ R c ls xs→ls.flatten.length=xs.length * R.size
 | [],[],_=>by simp
 | l :: ls,x :: xs,h=>by
  simp only [fV,ai,aA,R.len h.1,nQ.len h.2,fi,mX];omega
 | [],_ :: _,h=>h.elim
 | _ :: _,[],h=>h.elim
theorem nQ.get:∀{ls:List (List Value)} {xs:List α},nQ R c ls xs→AR R c ls.flatten xs
 | [],[],_=>fun i x h=>by simp at h
 | l :: ls,x :: xs,h=>fun i y hy=>by
  cases i with
  | zero=>
   simp only [FQ,aM] at hy;subst hy;rw [pN,ns,fV,←R.len h.1,DU];exact h.1
  | succ i=>
   simp only [iz] at hy;rw [fV,fi,mX,Nat.add_comm (i * R.size),←R.len h.1,←da,jj,R.len h.1];exact nQ.get h.2 i y hy
 | [],_ :: _,h=>h.elim
 | _ :: _,[],h=>h.elim
theorem Own.newS (m:Bool) {E:TypeId} {vs:List Value} {xs:List α} {cap:Nat} (O:Own c G F) (hp:0 < R.size) (hA:AR R c vs xs) (hc:xs.length≤cap) (hm:cap≤maxLen) (hcs:cap * R.size≤vs.length)
  (hr:(execOp ρ o).run P c.w= .ok (.value (.slice (some ⟨c.w.heap.size,0,none⟩) xs.length cap)) (c.w.alloc (.cells vs.toArray E))):
  ∃v c',(execOp ρ o).run P c.w= .ok (.value v) c'.w∧c.le c'∧∃vs,Own c' G (es m R v E vs xs :: F)∧OA R c' v vs xs:=by
 obtain ⟨c',h1,h2,h3,_,h4⟩:=Cx.new c vs E (cond m 0 (xs.length * R.size));refine ⟨_,c',by rw [h1]; exact hr,h2.le,vs,O.cons h2 (fun _=>id) (fun b hb=>?_) (fun b hb=>?_),hp,.inr ⟨_,_,rfl,hc,hm,hcs⟩,hA.mono h2.le⟩
 ·simp only [es,Go.Lt.blk,aM] at hb; subst hb; exact ⟨h3,h4⟩
 ·simp only [es,Go.Lt.blk,aM] at hb; omega
theorem Own.sl (m:Bool) {E:TypeId} {ls:List (List Value)} {vs:List Value} {xs:List α} (O:Own c G F) (hp:0 < R.size) (hv:ls.flatten=vs) (hR:nQ R c ls xs) (hm:Nat.ble xs.length 4294967296=true)
  (hr:(execOp ρ o).run P c.w= .ok (.value (.slice (some ⟨c.w.heap.size,0,none⟩) xs.length xs.length)) (c.w.alloc (.cells vs.toArray E))):
  ∃v c',(execOp ρ o).run P c.w= .ok (.value v) c'.w∧c.le c'∧∃vs,Own c' G (es m R v E vs xs :: F)∧OA R c' v vs xs:=by
 subst hv;have hm:=bp hm;exact Own.newS m O hp hR.get (aw _) (by unfold maxLen; omega) (by rw [hR.len]; exact aw _) hr
theorem Own.mkS (m:Bool) {E t:TypeId} {z:Value} {lz:List Value} {x:α} {xs:List α} {by_:Nat} {kl kc:IntKind} {i j:Int} (O:Own c G F) (hp:0 < R.size) (hrep:rep i x=some xs) (hij:i≤j) (hj:j≤far) (hT:P.underlying t=some (.slice E))
  (hi:(P.info? E).map (fun i=>(i.zero,i.size,i.bytes))=some (some z,R.size,by_)) (hz:z.cells.toList=lz) (hzl:lz.length=R.size) (hzx:∀c,R.cells c lz x) (hby:Nat.ble by_ 128=true)
  (hx:execOp ρ o=(do pure (Next.value (←Instr.makeSlice t (.int kl i) (.int kc j))):Sem Next)):
  ∃v c',(execOp ρ o).run P c.w= .ok (.value v) c'.w∧c.le c'∧∃vs,Own c' G (es m R v E vs xs :: F)∧OA R c' v vs xs:=by
 have hby:=bp hby;unfold rep at hrep;split at hrep
 ·rename_i h0
  cases hrep;obtain ⟨ti,hti,hzz⟩:=Option.map_eq_some_iff.1 hi;simp only [fM] at hzz;obtain ⟨hz1,hz2,hz3⟩:=hzz;unfold far at hj;have hb:(ti.bytes:Int) * j≤281474976710656:=by
   rw [hz3];have:(by_:Int) * j≤128 * 1099511627776:=Int.mul_le_mul (by omega) (by omega) (by omega) (by omega);omega
  have hr:=run_make (P:=P) c.w t E ti z hT hti hz1 kl kc i j h0.1 hij hb (by omega);have hlen:(List.replicate i.toNat x).length=i.toNat:=by simp
  have key:(madeCells z.cells (j.toNat * ti.size)).toList=(madeCells z.cells (j.toNat * ti.size)).toList:=rfl;have hget:∀q,q < j.toNat * R.size→(madeCells z.cells (j.toNat * ti.size)).toList[q]? = lz[q % R.size]? :=fun q hq=>by
   have hzs:z.cells.size=R.size:=by rw [←hzl,←hz]; simp
   have hq2:q % R.size < lz.length:=by rw [hzl]; exact DT _ hp
   have hq3:q % z.cells.size < z.cells.size:=by rw [hzs]; exact DT _ hp
   simp only [madeCells,Jo,Array.toList_range,bK,hz2,di hq,dH];rw [←hz,←hzs,Array.getElem?_toList,Array.getElem?_eq_getElem hq3];simp [getElem!_pos,hq3]
  refine Own.newS (vs:=(madeCells z.cells (j.toNat * ti.size)).toList) (cap:=j.toNat) m O hp (fun q y hy=>?_) (by rw [hlen]; omega) (by unfold maxLen; omega) (by simp [size_madeCells,hz2]) ?_
  ·have hy2:=List.getElem?_eq_some_iff.1 hy;obtain ⟨hq,hyx⟩:=hy2;simp at hyx;subst hyx;have hqi:q < i.toNat:=by simpa using hq
   have hm:=iF (s:=R.size) (show q < j.toNat by omega);have:((madeCells z.cells (j.toNat * ti.size)).toList.drop (q * R.size)).take R.size=lz:=by
    apply bQ;intro r;rw [aO];split
    ·rename_i hr
     rw [bO,hget _ (by omega),Nat.mul_comm q,Nat.mul_add_mod,Ab hr]
    ·rename_i hr
     rw [aQ (by omega)]
   rw [this];exact hzx c
  ·rw [hlen];exact rx hx (by rw [hr])
 ·cases hrep
theorem Sl.cut {xs:List α} {l h m:Nat} {a:Option Addr} {cap:Nat} (hS:Sl R c (.slice a xs.length cap) xs) (h1:l≤h) (h2:h≤xs.length) (h3:h≤m) (h4:m≤cap):
  Sl R c (.slice (if m=l then a else a.map (·.add (l * R.size))) (h - l) (m - l)) ((xs.drop l).take (h - l)):=by
 obtain ⟨a',cap',hv,h5,h6,h7⟩:=hS;cases hv;have hlen:((xs.drop l).take (h - l)).length=h - l:=by rw [ay,be]; omega
 refine ⟨_,m - l,by rw [hlen],by rw [hlen]; omega,by omega,fun i x hx=>?_⟩;rw [aO] at hx;split at hx
 ·rename_i hi
  rw [bO] at hx;obtain ⟨b,off,q,rfl,hq,hc⟩:=h7 _ _ hx;have hne:m≠l:=by omega
  refine ⟨b,off+l * R.size,q,?_,hq,fun j u hu=>?_⟩
  ·rw [ab hne]; simp [dj]
  ·have:=hc j u hu
   rwa [show off+(l+i) * R.size+j=off+l * R.size+i * R.size+j by rw [fi]; omega] at this
 ·cases hx
theorem mZ {xs zs:List α} {i j:Int} (h:slc xs i j=some zs):0≤i∧i≤j∧j≤xs.length∧zs=(xs.drop i.toNat).take (j - i).toNat:=by
 unfold slc at h;split at h
 ·rename_i hh
  exact ⟨hh.1,hh.2.1,hh.2.2,by simpa using h.symm⟩
 ·cases h
theorem D6 {xs zs:List α} {i j:Int} (h:slc xs i j=some zs):(zs.length:Int)=j - i:=by
 obtain ⟨h1,h2,h3,rfl⟩:=mZ h;rw [ay,be];omega
theorem Ek {v:Value} {xs zs:List α} {T E:TypeId} {i j:Int} {k k':IntKind} (hT:P.underlying T=some (.slice E)) (hE:(P.info? E).map (·.size)=some R.size) (h:Sl R c v xs) (hz:slc xs i j=some zs):
  ∃v',(∀w,(Instr.sliceAt T v (some (.int k i)) (some (.int k' j)) none).run P w= .ok v' w)∧Sl R c v' zs:=by
 obtain ⟨h1,h2,h3,rfl⟩:=mZ hz;obtain ⟨ti,hti,hsz⟩:=Option.map_eq_some_iff.1 hE;have hh:=h;obtain ⟨a,cap,rfl,h4,h5,h6⟩:=h;have hcut:=Sl.cut (l:=i.toNat) (h:=j.toNat) (m:=cap) hh (by omega) (by omega) (by omega) (aw _);rw [show (j - i).toNat=j.toNat - i.toNat by omega];refine ⟨_,fun w=>?_,hcut⟩;have e1:0≤i∧i≤j:=⟨h1,h2⟩;have e2:0≤j∧j≤(cap:Int):=⟨by omega,by omega⟩;have e3:((j.toNat:Nat):Int)=j:=by omega
 simp [Instr.sliceAt,bH hT,Instr.slice,Instr.sliceBounds,Instr.sliceBound,asIntOf,e1,e2,e3,sizeOf,typeInfo,hti,hsz]
theorem rT {v:Value} {xs zs:List α} {T E:TypeId} {j:Int} {k':IntKind} (hT:P.underlying T=some (.slice E)) (hE:(P.info? E).map (·.size)=some R.size) (h:Sl R c v xs) (hz:slc xs 0 j=some zs):
  ∃v',(∀w,(Instr.sliceAt T v none (some (.int k' j)) none).run P w= .ok v' w)∧Sl R c v' zs:=by
 obtain ⟨h1,h2,h3,rfl⟩:=mZ hz;obtain ⟨ti,hti,hsz⟩:=Option.map_eq_some_iff.1 hE;have hh:=h;obtain ⟨a,cap,rfl,h4,h5,h6⟩:=h;have hcut:=Sl.cut (l:=0) (h:=j.toNat) (m:=cap) hh (by omega) (by omega) (by omega) (aw _);rw [show (j - 0).toNat=j.toNat - 0 by omega];refine ⟨_,fun w=>?_,hcut⟩;have e2:0≤j∧j≤(cap:Int):=⟨by omega,by omega⟩;simp [Instr.sliceAt,bH hT,Instr.slice,Instr.sliceBounds,Instr.sliceBound,asIntOf,e2,sizeOf,typeInfo,hti]
theorem Own.cutH {v:Value} {vs:List Value} {xs zs:List α} {T E:TypeId} {j:Int} {k':IntKind} (k:Nat) (O:Own c G F) (hk:F[k]? = some (es true R v E vs xs)) (hT:P.underlying T=some (.slice E)) (h:OA R c v vs xs) (hE:(P.info? E).map (·.size)=some R.size) (hz:slc xs 0 j=some zs):
  ∃v',(∀w,(Instr.sliceAt T v none (some (.int k' j)) none).run P w= .ok v' w)∧Own c G (F.set k (es true R v' E vs zs))∧OA R c v' vs zs:=by
 obtain ⟨h1,h2,h3,rfl⟩:=mZ hz;obtain ⟨ti,hti,hsz⟩:=Option.map_eq_some_iff.1 hE;have hlen:((xs.drop (0:Int).toNat).take (j - 0).toNat).length=j.toNat:=by simp; omega
 have hAR:AR R c vs ((xs.drop (0:Int).toNat).take (j - 0).toNat):=fun i x hx=>by
  rw [aO] at hx;split at hx
  ·simp at hx; exact h.2.2 i x hx
  ·cases hx
 rcases h.2.1 with ⟨rfl,rfl⟩ | ⟨g,cap,rfl,h4,h5,h6⟩
 ·obtain rfl:j=0:=by simp at h3; omega
  refine ⟨.slice none 0 0,fun w=>?_,?_,?_⟩
  ·simp [Instr.sliceAt,bH hT,Instr.slice,Instr.sliceBounds,Instr.sliceBound,asIntOf,sizeOf,typeInfo,hti]
  ·have:F.set k (es true R (.slice none 0 0) E vs (([]:List α).drop (0:Int).toNat |>.take (0 - 0:Int).toNat))=F:=by
    apply bQ;intro q;by_cases hq:k=q
    ·subst hq; rw [bi (List.getElem?_eq_some_iff.1 hk).1,hk]; rfl
    ·rw [aR hq]
   rw [this]; exact O
  ·exact ⟨h.1,.inl ⟨rfl,by simp⟩,hAR⟩
 ·refine ⟨.slice (some ⟨g,0,none⟩) j.toNat cap,fun w=>?_,?_,h.1,.inr ⟨g,cap,by rw [hlen],by rw [hlen]; omega,h5,h6⟩,hAR⟩
  ·have e2:0≤j∧j≤(cap:Int):=⟨by omega,by omega⟩;simp [Instr.sliceAt,bH hT,Instr.slice,Instr.sliceBounds,Instr.sliceBound,asIntOf,e2,sizeOf,typeInfo,hti,Addr.add]
  ·refine O.set k hk (D:=fun _=>False) ⟨Cx.le.refl c,rfl,fun _ _ _=>⟨rfl,fun _=>Jc⟩⟩ (fun b (h:False)=>h.elim) (fun b hb=>?_) (fun b hb=> .inl hb);exact O.on k hk b hb
theorem Own.cutHM {v:Value} {vs:List Value} {xs zs:List α} {T E:TypeId} {j:Int} {k' k2:IntKind} (k:Nat) (O:Own c G F) (hk:F[k]? = some (es true R v E vs xs)) (hT:P.underlying T=some (.slice E)) (h:OA R c v vs xs) (hE:(P.info? E).map (·.size)=some R.size) (hz:slc xs 0 j=some zs):
  ∃v',(∀w,(Instr.sliceAt T v none (some (.int k' j)) (some (.int k2 j))).run P w= .ok v' w)∧Own c G (F.set k (es true R v' E vs zs))∧OA R c v' vs zs:=by
 obtain ⟨h1,h2,h3,rfl⟩:=mZ hz;obtain ⟨ti,hti,hsz⟩:=Option.map_eq_some_iff.1 hE;have hlen:((xs.drop (0:Int).toNat).take (j - 0).toNat).length=j.toNat:=by simp; omega
 have hAR:AR R c vs ((xs.drop (0:Int).toNat).take (j - 0).toNat):=fun i x hx=>by
  rw [aO] at hx;split at hx
  ·simp at hx; exact h.2.2 i x hx
  ·cases hx
 rcases h.2.1 with ⟨rfl,rfl⟩ | ⟨g,cap,rfl,h4,h5,h6⟩
 ·obtain rfl:j=0:=by simp at h3; omega
  refine ⟨.slice none 0 0,fun w=>?_,?_,?_⟩
  ·simp [Instr.sliceAt,bH hT,Instr.slice,Instr.sliceBounds,Instr.sliceBound,asIntOf,sizeOf,typeInfo,hti]
  ·have:F.set k (es true R (.slice none 0 0) E vs (([]:List α).drop (0:Int).toNat |>.take (0 - 0:Int).toNat))=F:=by
    apply bQ;intro q;by_cases hq:k=q
    ·subst hq; rw [bi (List.getElem?_eq_some_iff.1 hk).1,hk]; rfl
    ·rw [aR hq]
   rw [this]; exact O
  ·exact ⟨h.1,.inl ⟨rfl,by simp⟩,hAR⟩
 ·refine ⟨.slice (some ⟨g,0,none⟩) j.toNat j.toNat,fun w=>?_,?_,h.1,.inr ⟨g,j.toNat,by rw [hlen],by rw [hlen]; omega,by omega,?_⟩,hAR⟩
  ·have e2:0≤j∧j≤(cap:Int):=⟨by omega,by omega⟩;simp [Instr.sliceAt,bH hT,Instr.slice,Instr.sliceBounds,Instr.sliceBound,asIntOf,e2,sizeOf,typeInfo,hti,Addr.add];omega
  ·refine O.set k hk (D:=fun _=>False) ⟨Cx.le.refl c,rfl,fun _ _ _=>⟨rfl,fun _=>Jc⟩⟩ (fun b (h:False)=>h.elim) (fun b hb=>?_) (fun b hb=> .inl hb);exact O.on k hk b hb
  ·have:=mb R.size (show j.toNat≤cap by omega);omega
theorem Pt.cs {g:Nat} {v:Value} {p:Option Nat} (h:Pt g c v p):(v= .pointer none∧p.isNone=true)∨∃b,v= .pointer (some ⟨b,0,none⟩)∧p.isNone=false:=by
 cases p with
 | none=>exact .inl ⟨h,rfl⟩
 | some p=>obtain ⟨b,h,_⟩:=h; exact .inr ⟨b,h,rfl⟩
theorem RE.cs {S T:TypeId} {v:Value} {e:Er} (h:RE S T c v e):(v= .nilIface∧e.isNil=true)∨(∃a,v= .iface S (.pointer (some a))∧e.isNil=false)∨∃b,v= .iface T (.pointer (some ⟨b,0,none⟩))∧e.isNil=false:=by
 cases e with
 | nil=>exact .inl ⟨h,rfl⟩
 | sent g=>obtain ⟨b,h,_⟩:=h; exact .inr (.inl ⟨b,h,rfl⟩)
 | fault i e=>obtain ⟨b,u,h,_⟩:=h; exact .inr (.inr ⟨b,h,rfl⟩)
theorem RE.cs3 {S T:TypeId} {v:Value} {e:Er} (h:RE S T c v e):v= .nilIface∨∃t a,v= .iface t (.pointer a):=by
 rcases h.cs with ⟨h,_⟩ | ⟨b,h,_⟩ | ⟨b,h,_⟩
 ·exact .inl h
 ·exact .inr ⟨_,_,h⟩
 ·exact .inr ⟨_,_,h⟩
def dZ (G G':Gm):Prop:=∀g k,G g k≠ []→G' g k=G g k
theorem dZ.refl (G:Gm):dZ G G:=fun _ _ _=>rfl
theorem dZ.trans {a b c:Gm} (h:dZ a b) (k:dZ b c):dZ a c:=fun g i hi=>(k g i (by rw [h g i hi]; exact hi)).trans (h g i hi)
theorem dZ.get {G G':Gm} {g k:Nat} {e:En} {l:List En} (h:dZ G G') (hE:G g k=e :: l):G' g k=e :: l:=(h g k (by rw [hE]; exact Jk _ _)).trans hE
theorem dZ.nil {G G':Gm} {g k:Nat} (h:dZ G G') (hE:G' g k= []):G g k= []:=by
 by_cases hn:G g k= []
 ·exact hn
 ·rw [h g k hn] at hE; exact hE
theorem Kp.adds {G G':Gm} (O:Own c G' F) (h:dZ G G'):Kp G [] c:=fun i e hi=>by
 cases i with
 | inl i=>simp [at_] at hi
 | inr i=>
  obtain ⟨g,k,r⟩:=i;simp only [at_] at hi;have hne:G g k≠ []:=fun e=>by rw [e] at hi; simp at hi
  rw [←h g k hne] at hi;exact O.gon rfl r hi
theorem Own.stGB {T:TypeId} {e:En} {b j:Nat} {us nw:List Value} {v:Value} {g k:Nat} {E:List En} (r:Nat) (O:Own c (jl G g k E) F) (hx:execOp ρ o=(do Instr.storeAt T (.pointer (some ⟨b,j,none⟩)) v; pure Next.skip:Sem Next)) (hr:E[r]? = some e) (hb:Go.Lt.blk e.v=some b) (hlim:e.lim=0)
  (hv:v.cells.toList=us) (hs:(P.info? T).map (·.size)=some us.length) (h1:lY us) (hl:Nat.ble (j+us.length) e.vs.length=true) (hn:e.vs.take j++us++e.vs.drop (j+us.length)=nw):
  ∃c',(execOp ρ o).run P c.w= .ok .skip c'.w∧c.le c'∧Own c' (jl G g k (E.set r ⟨e.v,e.T,nw,0⟩)) F:=by
 obtain ⟨c',h1,h2,h3⟩:=Own.stG (P:=P) r O hx (cL _ _ _ _) hr hb hlim hv hs h1 hl hn;rw [wi] at h3;exact ⟨c',h1,h2,h3⟩
def Cp (n:Nat) (ks:List Nat):Bool:=ks.all (fun i=>Nat.blt i n) && decide ks.Nodup
theorem Own.selD (n:Nat) (ks:List Nat) (O:Own c G F) (hks:Cp n ks=true) (hn:Nat.ble n F.length=true):Own c G (ks.map (fun i=>F.getD i sV)++F.drop n):=by
 simp only [Cp,av,sK,ak] at hks;have hn:=bp hn;refine Own.sel (L:=F.take n) ks (by rw [lf]; exact O) hks.2 ?_;rw [Hi];refine cV fun i hi=>?_;have h1:i < n:=by have:=hks.1 i hi; simpa [Nat.blt_eq] using this
 simp only [Function.comp,aO,ae h1,an];rw [af (by omega)];rfl
end
section
variable {P:Program} {c:Cx} {n:Fr} {e:Nat→Value} {fn:Func} {R:Ending→World→Prop}
theorem rV {t b:Nat} {T U:TypeId} {vs:List Value} (hr:fn.results= #[.cell t T]) (hv:ev n e (.tmp t)= .pointer (some ⟨b,0,none⟩))
  (hT:(P.underlying T).map (fun d=>match d with | .struct _ | .array _ _=>true | _=>false)=some true) (hs:(P.info? T).map (·.size)=some vs.length) (h:c.w.heap[b]? = some (.cells vs.toArray U (0,0)))
  (hR:R (.returned (.agg vs.toArray)) c.w):nk P fn n R .ret e c.w:=by
 have hl:=nV (P:=P) (w:=c.w) (b:=b) (o:=0) (l:=vs) hT hs (fun j u hu=>by simp [World.cell?,h,hu]);refine ⟨.agg vs.toArray,?_,hR⟩;have ht:=gI n e t;rw [hv,co] at ht;simp [results,hr,ht,asAddr,hl]
theorem uH {t u b:Nat} {T U:TypeId} {vs:List Value} {v:Value} (hr:fn.results= #[.cell t T,.tmp u]) (hv:ev n e (.tmp t)= .pointer (some ⟨b,0,none⟩)) (hu:ev n e (.tmp u)=v)
  (hT:(P.underlying T).map (fun d=>match d with | .struct _ | .array _ _=>true | _=>false)=some true) (hs:(P.info? T).map (·.size)=some vs.length) (h:c.w.heap[b]? = some (.cells vs.toArray U (0,0)))
  (hR:R (.returned (.tuple #[.agg vs.toArray,v])) c.w):nk P fn n R .ret e c.w:=by
 have hl:=nV (P:=P) (w:=c.w) (b:=b) (o:=0) (l:=vs) hT hs (fun j u hu=>by simp [World.cell?,h,hu]);refine ⟨.tuple #[.agg vs.toArray,v],?_,hR⟩;have ht:=gI n e t;have hu':=gI n e u;rw [hv,co] at ht;rw [hu,co] at hu';simp [results,hr,ht,hu',asAddr,hl,Result.andThen]
theorem ID {w:World} {t u s:Nat} {v v' v'':Value} (hr:fn.results= #[.tmp t,.tmp u,.tmp s]) (hv:ev n e (.tmp t)=v) (hu:ev n e (.tmp u)=v') (hs:ev n e (.tmp s)=v'')
  (h:R (.returned (.tuple #[v,v',v''])) w):nk P fn n R .ret e w:=by
 refine ⟨.tuple #[v,v',v''],?_,h⟩;have h1:=gI n e t;have h2:=gI n e u;have h3:=gI n e s;rw [hv,co] at h1;rw [hu,co] at h2;rw [hs,co] at h3;simp [results,hr,h1,h2,h3]
theorem zt {s t u b:Nat} {T U:TypeId} {vs:List Value} {v v':Value} (hr:fn.results= #[.tmp s,.cell t T,.tmp u]) (hs':ev n e (.tmp s)=v') (hv:ev n e (.tmp t)= .pointer (some ⟨b,0,none⟩)) (hu:ev n e (.tmp u)=v)
  (hT:(P.underlying T).map (fun d=>match d with | .struct _ | .array _ _=>true | _=>false)=some true) (hs:(P.info? T).map (·.size)=some vs.length) (h:c.w.heap[b]? = some (.cells vs.toArray U (0,0)))
  (hR:R (.returned (.tuple #[v',.agg vs.toArray,v])) c.w):nk P fn n R .ret e c.w:=by
 have hl:=nV (P:=P) (w:=c.w) (b:=b) (o:=0) (l:=vs) hT hs (fun j u hu=>by simp [World.cell?,h,hu]);refine ⟨.tuple #[v',.agg vs.toArray,v],?_,hR⟩;have ht:=gI n e t;have hu':=gI n e u;have hs'':=gI n e s;rw [hv,co] at ht;rw [hu,co] at hu';rw [hs',co] at hs'';simp [results,hr,ht,hu',hs'',asAddr,hl,Result.andThen]
end
section
variable {P:Program} {ρ:Operand→Value} {o:Oper} {T U:TypeId} {xs ys:Array Value} {fs:Array Field} {r:Bool}
end
end Go.Lt
namespace Go.Lt
abbrev T16:=Int×Int×Int×Int×Int×Int×Int×Int×Int×Int×Int×Int×Int×Int×Int×Int
def a16 (t:T16):List Int:=[t.1,t.2.1,t.2.2.1,t.2.2.2.1,t.2.2.2.2.1,t.2.2.2.2.2.1,t.2.2.2.2.2.2.1,t.2.2.2.2.2.2.2.1,t.2.2.2.2.2.2.2.2.1,t.2.2.2.2.2.2.2.2.2.1,t.2.2.2.2.2.2.2.2.2.2.1,t.2.2.2.2.2.2.2.2.2.2.2.1,t.2.2.2.2.2.2.2.2.2.2.2.2.1,t.2.2.2.2.2.2.2.2.2.2.2.2.2.1,t.2.2.2.2.2.2.2.2.2.2.2.2.2.2.1,t.2.2.2.2.2.2.2.2.2.2.2.2.2.2.2]
def l16 (l:List Int):T16:=(l.getD 0 0,l.getD 1 0,l.getD 2 0,l.getD 3 0,l.getD 4 0,l.getD 5 0,l.getD 6 0,l.getD 7 0,l.getD 8 0,l.getD 9 0,l.getD 10 0,l.getD 11 0,l.getD 12 0,l.getD 13 0,l.getD 14 0,l.getD 15 0)
theorem nB (t:T16):(a16 t).length=16:=rfl
theorem Fv {l:List Int} (h:l.length=16):a16 (l16 l)=l:=by
 match l,h with
 | [_,_,_,_,_,_,_,_,_,_,_,_,_,_,_,_],_=>rfl
def xz (t:T16) (i x:Int):T16:=l16 ((a16 t).set i.toNat x)
theorem zc (t:T16) (i x:Int):a16 (xz t i x)=(a16 t).set i.toNat x:=Fv (by rw [bY]; rfl)
theorem Ea {α:Type} (pre l post:List α) {m:Nat} (x:α) (h:m < l.length):(pre++l++post).take (pre.length+m * 1)++ [x]++(pre++l++post).drop (pre.length+m * 1+1)=pre++l.set m x++post:=by
 rw [Is,aC pre l post,Ac,List.drop_append,aK (by omega),Hl (l:=pre) (by omega),bm];rw [show pre.length+m - pre.length=m by omega,show pre.length+m+1 - pre.length=m+1 by omega];rw [dA (by omega),gU (by omega)];rw [List.set_eq_take_append_cons_drop,ae h];simp only [aC,cK,bm]
theorem FD {k:IntKind} {t y:T16} {i x z:Int} (h:idx (a16 t) i=some z) (hy:some (xz t i x)=some y) (pre post:List Value):
  (pre++(a16 t).map (Value.int k)++post).take (pre.length+i.toNat * 1)++ [.int k x]++(pre++(a16 t).map (Value.int k)++post).drop (pre.length+i.toNat * 1+1)=pre++(a16 y).map (Value.int k)++post:=by
 have hl:=p9 h;rw [nB] at hl;cases hy;rw [Ea _ _ _ _ (by rw [bZ,nB]; omega),zc,List.map_set]
theorem FO {i z:Int} {t:T16} (h:idx (a16 t) i=some z) {p n:Nat} (hn:p+16≤n):Nat.ble (p+i.toNat * 1+1) n=true:=by
 have hl:=p9 h;rw [nB] at hl;exact nE (by omega)
section
variable {P:Program} {c c':Cx} {G:Gm} {F:List En} {ρ:Operand→Value} {o:Oper}
theorem Own.back {g k:Nat} {E E':List En} (O:Own c (jl G g k E') F) (hE:G g k=E) (h:E'=E):Own c G F:=by
 subst h;have e:jl G g k E'=G:=by
  funext a b
  simp only [jl];split
  ·rename_i hh
   obtain ⟨rfl,rfl⟩:=hh;exact hE.symm
  ·rfl
 rwa [e] at O
theorem Own.appSrc {α:Type} {R:Rp α} {E t ty:TypeId} {v:Value} {vs:List Value} {xs ys zs:List α} {z:Value} {by_:Nat} {m:Bool} {ua:Option Addr} {ucap:Nat} {nw:List Value} (k:Nat) (O:Own c G F) (hk:F[k]? = some (es m R v E vs xs)) (h:OA R c v vs xs)
  (n1:nw.length=ys.length * R.size) (n2:ys≠ []→∃ub uo,ua=some ⟨ub,uo,none⟩∧∀j w,nw[j]? = some w→c.w.cell? ⟨ub,uo+j,none⟩=some w) (n3:∀w∈nw,w.oneCell'=true) (n4:∀i x,ys[i]? = some x→R.cells c ((nw.drop (i * R.size)).take R.size) x) (happ:Go.Lt.app xs ys=some zs)
  (hT:P.underlying t=some (.slice E)) (hi:(P.info? E).map (fun i=>(i.zero,i.size,i.bytes))=some (some z,R.size,by_)) (hz:z.cells.size=R.size) (hby:Nat.ble by_ 128=true)
  (hx:execOp ρ o=(do pure (Next.value (←Builtin.append_ #[t,t] ty #[v,.slice ua ys.length ucap])):Sem Next)):
  ∃v' c',(execOp ρ o).run P c.w= .ok (.value v') c'.w∧c.le c'∧∃vs',Own c' G (F.set k (es m R v' E vs' zs))∧OA R c' v' vs' zs:=by
 obtain ⟨v',c',h1,h2,h3⟩:=vF (P:=P) (t:=t) (ty:=ty) (ucap:=ucap) k O hk h n1 n2 n3 n4 happ hT hi hz hby;exact ⟨v',c',rx hx h1,h2,h3⟩
theorem uE {T E:TypeId} {n sz b j:Nat} {k:IntKind} {i:Int} (hT:P.underlying T=some (.array n E)) (hE:(P.info? E).map (·.size)=some sz) (h0:0≤i) (h1:i < (n:Int)) (w:World):
  (Instr.indexAt T (.pointer (some ⟨b,j,none⟩)) (.int k i)).run P w= .ok (.pointer (some ⟨b,j+i.toNat * sz,none⟩)) w:=by
 obtain ⟨ti,hti,hsz⟩:=Option.map_eq_some_iff.1 hE;simp [Instr.indexAt,asIntOf,Instr.sureAddr,bH hT,h0,h1,sizeOf,typeInfo,hti,hsz,dj]
theorem xY {T E:TypeId} {n b j:Nat} {k:IntKind} {i:Int} (hT:P.underlying T=some (.array n E)) (hE:((P.info? E).map (·.size)).isSome=true) (h0:0≤i) (h1:i≤(n:Int)) (w:World):
  (Instr.sliceAt T (.pointer (some ⟨b,j,none⟩)) none (some (.int k i)) none).run P w= .ok (.slice (some ⟨b,j,none⟩) i.toNat n) w:=by
 cases hti:P.info? E with
 | none=>rw [hti] at hE; cases hE
 | some ti=>
  have e2:0≤i∧i≤(n:Int):=⟨h0,h1⟩;simp [Instr.sliceAt,Instr.sureAddr,bH hT,Instr.sliceBounds,Instr.sliceBound,asIntOf,e2,sizeOf,typeInfo,hti,dj]
theorem Cb {k:IntKind} {t:T16} {i:Int} {xs:List Int} (h:slc (a16 t) 0 i=some xs) (pre post:List Value) (m:Nat) (u:Value) (hu:(xs.map (Value.int k))[m]? = some u):(pre++(a16 t).map (Value.int k)++post)[pre.length+m]? = some u:=by
 obtain ⟨h1,h2,h3,rfl⟩:=mZ h;rw [nB] at h3;rw [bK] at hu;simp only [Int.toNat_zero,ns,aO] at hu;split at hu
 ·rename_i hm
  have hm16:m < 16:=by omega
  rw [aC,aI (by omega),show pre.length+m - pre.length=m by omega,ax (by rw [bZ,nB]; exact hm16),bK];exact hu
 ·cases hu
theorem xR {t:T16} {i:Int} {xs:List Int} (h:slc (a16 t) 0 i=some xs):xs.length=i.toNat:=by
 have:=D6 h;omega
theorem nQ.map {α:Type} {R:Rp α} {c:Cx} (f:α→List Value) (h:∀x,R.cells c (f x) x):∀l:List α,nQ R c (l.map f) l
 | []=>trivial
 | x :: l=>⟨h x,nQ.map f h l⟩
def fy (k:IntKind) (a b:Int):Int:=k.wrap ((BitVec.ofInt k.bits a &&& BitVec.ofInt k.bits b).toNat:Int)
def iQ (k:IntKind) (a b:Int):Int:=k.wrap ((BitVec.ofInt k.bits a ||| BitVec.ofInt k.bits b).toNat:Int)
def shn (n:Int):Option Nat:=if n < 0 then none else some n.toNat
theorem Cl {n:Int} {m:Nat} (h:shn n=some m):¬n < 0∧n.toNat=m:=by
 unfold shn at h;split at h
 ·cases h
 ·rename_i hn; exact ⟨hn,by simpa using h⟩
theorem Eg {k k':IntKind} {a b:Int} {m:Nat} (h:shn b=some m) (hx:execOp ρ o=(do pure (Next.value (←Op.shift .shl k a k' b)):Sem Next)) (w:World):(execOp ρ o).run P w= .ok (.value (.int k (k.wrap (a * 2 ^ (min m k.bits))))) w:=by
 obtain ⟨h1,h2⟩:=Cl h;rw [hx];exact rv (by simp [Op.shift,h1,h2])
end
end Go.Lt
namespace Go.Lt
section
variable {P:Program} {c c':Cx} {G:Gm} {F:List En} {ρ:Operand→Value} {o:Oper}
theorem Own.frzB {b:Nat} {T:TypeId} {vs:List Value} (k:Nat) (O:Own c G F) (hk:F[k]? = some ⟨.pointer (some ⟨b,0,none⟩),T,vs,0⟩):
  ∃c',c'.w=c.w∧c.le c'∧Own c' G (F.set k ⟨.pointer (some ⟨b,0,none⟩),T,vs,vs.length⟩)∧∀j u,vs[j]? = some u→Im c' b (0+j) u:=by
 have hon:=O.on k hk;obtain ⟨hh,hA⟩:=hon b rfl
 let c':Cx:=⟨c.w,fun b' o=>c.A b' o∧¬(b'=b∧o < vs.length),c.t⟩
 have hle:c.le c':=⟨rfl,rfl,aw _,fun _ _ _ h=>⟨rfl,fun h2=>h h2.1⟩,fun _ _ _=>rfl,fun _ _ _=>rfl,fun _ _ _ h=>h⟩;have hb:c.but (fun b'=>b'=b) c':=⟨hle,rfl,fun b' hb' hd=>⟨rfl,fun o=>⟨fun h=>h.1,fun h=>⟨h,fun h2=>hd h2.1⟩⟩⟩⟩;refine ⟨c',rfl,hle,O.set k hk hb (fun b' h=>by rw [h]; rfl) (fun b' hb'=>?_) (fun b' h=> .inl h),fun j u hu=>⟨hon.lt rfl,fun hA'=>?_,?_⟩⟩
 ·simp only [blk,aM] at hb';subst hb';refine ⟨hh,fun o=>?_⟩;show (c.A b o∧¬(b=b∧o < vs.length))↔vs.length≤o;rw [hA o];simp
 ·have:=(List.getElem?_eq_some_iff.1 hu).1;exact hA'.2 ⟨rfl,by omega⟩
 ·show c.w.cell? _=_;rw [fh _ _ _ _ _ _ hh,bJ,fU,hu]
theorem Be {w:World} {b:Nat} {vs:Array Value} {T:TypeId} {z:Nat×Nat} (h:w.heap[b]? = some (.cells vs T z)):(shape b).run P w= .ok (some (T,vs.size)) w:=by
 simp [shape,Sem.run,World.shape?,h]
theorem BB {w:World} {b n:Nat} {vs:Array Value} {T:TypeId} (h:w.heap[b]? = some (.cells vs T (0,0))):(w.freeze ⟨b,n,none⟩ 1).heap[b]? = some (.cells vs T (n,n+1)):=by
 simp [World.freeze,Hr,h]
theorem zG {w:World} {b n k:Nat} (h:k≠b):(w.freeze ⟨b,n,none⟩ 1).heap[k]? = w.heap[k]? :=by
 simp [World.freeze,Hr,rd h]
theorem wx (w:World) (a:Addr):(w.freeze a 1).heap.size=w.heap.size:=by simp [World.freeze]
theorem Own.mark {α:Type} {R:Rp α} {m:Bool} {v:Value} {E T E':TypeId} {vs:List Value} {xs:List α} (k:Nat) (O:Own c G F) (hk:F[k]? = some (es m R v E vs xs)) (h:OA R c v vs xs) (hne:Nat.ble 1 xs.length=true)
  (hT:P.underlying T=some (.slice E')) (hE:P.underlying E'=some (.int .u8)) (hx:execOp ρ o=(do pure (Next.value (←convert T T v)):Sem Next)):
  ∃v' c',(execOp ρ o).run P c.w= .ok (.value v') c'.w∧c.le c'∧Own c' G (F.set k sV)∧Sl R c' v' xs:=by
 have hne:=bp hne;have hon:=O.on k hk;obtain ⟨hp,h1,h2⟩:=id h;rcases h1 with ⟨rfl,rfl⟩ | ⟨g,cap,rfl,hc,hm,hcs⟩
 ·simp at hne
 have hlt:=hon.lt (b:=g) rfl;obtain ⟨h3,h4⟩:=hon g rfl;simp only [es] at h3 h4;have hal:=AR.len h2 hp;have hlim:(cond m 0 (xs.length * R.size))≤vs.length:=by cases m <;> simp <;> omega
 let w':=c.w.freeze ⟨g,vs.toArray.size,none⟩ 1
 have e1:w'.heap[g]? = some (.cells vs.toArray E (vs.toArray.size,vs.toArray.size+1)):=BB h3;have e2:∀k,k≠g→w'.heap[k]? = c.w.heap[k]? :=fun k hk=>zG hk
 let c':Cx:=⟨w',fun b' o=>c.A b' o∧b'≠g,c.t⟩
 have hcell:∀k o,w'.cell? ⟨k,o,none⟩=c.w.cell? ⟨k,o,none⟩:=fun k o=>by
  by_cases hkg:k=g
  ·subst hkg;rw [fh _ _ _ _ _ _ e1,fh _ _ _ _ _ _ h3]
  ·simp only [World.cell?,e2 k hkg]
 have hle:c.le c':=by
  refine ⟨rfl,rfl,Nat.le_of_eq (wx _ _).symm,fun k o _ hA=>⟨hcell k o,fun hA'=>hA hA'.1⟩,fun k hk hA=>e2 k ?_,fun a ha hA=>?_,fun _ _ _ h=>h⟩
  ·rintro rfl;exact hA _ ((h4 _).2 (aw _))
  ·by_cases hag:a.block=g
   ·have h5:¬(cond m 0 (xs.length * R.size))≤a.off:=fun h=>hA (by rw [hag]; exact (h4 _).2 h);simp only [World.frozen?,hag,h3];show (match w'.heap[g]? with | some (.cells _ _ (lo,hi))=>decide (lo≤a.off) && decide (a.off < hi) | _=>false)=_;rw [e1];simp;omega
   ·simp only [World.frozen?];show (match w'.heap[a.block]? with | some (.cells _ _ (lo,hi))=>decide (lo≤a.off) && decide (a.off < hi) | _=>false)=_;rw [e2 _ hag];rfl
 have hb:c.but (fun b'=>b'=g) c':=⟨hle,rfl,fun b' hb' hd=>⟨e2 _ hd,fun o=>⟨fun h=>h.1,fun h=>⟨h,hd⟩⟩⟩⟩;refine ⟨.slice (some ⟨g,0,none⟩) xs.length cap,c',rx hx ?_,hle,O.set k hk hb (fun b' h=>by rw [h]; rfl) (xh c') (fun b' h=>by cases h),?_⟩
 ·have hsh:(shape g).run P c.w= .ok (some (E,vs.toArray.size)) c.w:=Be h3;simp [convert,bH hT,bH hE,markStringish,hsh,freeze,Sem.run,Result.andThen];rfl
 ·refine ⟨_,cap,rfl,hc,hm,fun i x hx=>⟨g,0,_,rfl,R.mono hle (h2 i x hx),fun j u hu=>⟨by show g < w'.heap.size; rw [wx]; exact hlt,fun hA=>hA.2 rfl,?_⟩⟩⟩;show w'.cell? _=_;rw [hcell,fh _ _ _ _ _ _ h3,bJ,fU];rw [aO] at hu;split at hu
  ·rwa [bO] at hu
  ·cases hu
def F6 (s:ByteArray) (i:Int):Option Int:=if 0≤i then (s[i.toNat]?).map (fun b=>(b.toNat:Int)) else none
theorem zp {T:TypeId} {s:ByteArray} {k:IntKind} {i x:Int} (hT:P.underlying T=some .string) (h:F6 s i=some x) (w:World):(Instr.index T (.string s) (.int k i)).run P w= .ok (.int .u8 x) w:=by
 unfold F6 at h;split at h
 ·rename_i h0
  obtain ⟨b,hb,rfl⟩:=Option.map_eq_some_iff.1 h;simp [Instr.index,asIntOf,bH hT,h0,hb]
 ·cases h
end
section
variable {P:Program} {c:Cx} {n:Fr} {e:Nat→Value} {fn:Func} {R:Ending→World→Prop}
end
section
variable {D:List Nat} {K:Cx→Prop} {P:Program} {l:List Oper} {n:Fr} {Q:Exit→(Nat→Value)→World→Prop} {fuel:Nat} {li:List Bool} {e:Nat→Value} {c:Cx} {o:Oper}
theorem Go1.late (i:Nat) (v:Value) (hi:l.toArray[i]? = some o) (hsl:fb n l=true) (hw:iD l.toArray n e o=true) (hr:(execOp (ev n e) o).run P c.w= .ok (.value v) c.w)
  (hk:D.contains i=true) (h:AC D K P l n Q fuel (li.set i true) (upO e o.dst v) c):Go1 D K P l n Q fuel li e c i:=Go1.val hi hsl hw hr (Cx.le.refl c) (.inl hk) h
end
end Go.Lt
namespace Go.Lt
theorem pt {c c':Cx} (k:c.le c':=by repeat (first | assumption | exact Cx.le.refl _ | refine Cx.le.trans ?_ (by assumption))):c.le c':=k
section
variable {c c':Cx} {α:Type} {R:Rp α}
theorem Sl.m {v:Value} {xs:List α} (h:Sl R c v xs) (k:c.le c':=by repeat (first | assumption | refine Cx.le.trans ?_ (by assumption))):Sl R c' v xs:=h.mono k
theorem OA.m {v:Value} {vs:List Value} {xs:List α} (h:OA R c v vs xs) (k:c.le c':=by repeat (first | assumption | refine Cx.le.trans ?_ (by assumption))):OA R c' v vs xs:=h.mono k
theorem Pt.m {g:Nat} {v:Value} {p:Option Nat} (h:Pt g c v p) (k:c.le c':=by repeat (first | assumption | refine Cx.le.trans ?_ (by assumption))):Pt g c' v p:=h.mono k
theorem RE.m {S T:TypeId} {v:Value} {e:Er} (h:RE S T c v e) (k:c.le c':=by repeat (first | assumption | refine Cx.le.trans ?_ (by assumption))):RE S T c' v e:=h.mono k
theorem mm {b o:Nat} {L:List Value} (h:∀j u,L[j]? = some u→Im c b (o+j) u) (k:c.le c':=by repeat (first | assumption | refine Cx.le.trans ?_ (by assumption))):∀j u,L[j]? = some u→Im c' b (o+j) u:=fun j u hu=>(h j u hu).mono k
theorem tm {g k b:Nat} (h:c.t g k=some b) (l:c.le c':=by repeat (first | assumption | refine Cx.le.trans ?_ (by assumption))):c'.t g k=some b:=l.t _ _ _ h
end
theorem yA {e:Nat→Value}:∀{l:List (Nat×Value)},l.map (fun x=>e x.1)=l.map (fun x=>x.2)→uZ e l
 | [],_=>trivial
 | (t,v) :: l,h=>by
  simp only [eV,B7] at h;exact ⟨h.1,yA h.2⟩
theorem us {e:Nat→Value} {l:List (Nat×Value)} (h:l.map (fun x=>e x.1)=l.map (fun x=>x.2):=by kernel_rfl):e=ups e l:=xL (yA h)
abbrev Jn (c0:Cx) (q:Cx→List (Nat×Value)→Prop) (e:Nat→Value) (w:World):Prop:=∃(c:Cx) (g:Nat→Value) (l:List (Nat×Value)),w=c.w∧c0.le c∧e=ups g l∧q c l
theorem jn {c0:Cx} {q:Cx→List (Nat×Value)→Prop} {e:Nat→Value} {l:List (Nat×Value)} (c:Cx) (h:q c l) (k:c0.le c:=by repeat (first | assumption | exact Cx.le.refl _ | refine Cx.le.trans ?_ (by assumption))) (u:l.map (fun x=>e x.1)=l.map (fun x=>x.2):=by kernel_rfl):Jn c0 q e c.w:=⟨c,e,l,rfl,k,us u,h⟩
theorem qq {c0:Cx} {X:Cx→Value→Prop} {v:Value} (c:Cx) (h:X c v) (k:c0.le c:=by repeat (first | assumption | exact Cx.le.refl _ | refine Cx.le.trans ?_ (by assumption))):aT c0 X (.returned v) c.w:=⟨v,c,rfl,rfl,k,h⟩
theorem bn {α β:Type} {x:Option α} {f:α→Option β} {r:β} {C:Prop} (H:x.bind f=some r) (k:∀a,x=some a→f a=some r→C):C:=by
 obtain ⟨a,h1,h2⟩:=bs H;exact k a h1 h2
theorem si {α:Type} {a b:α} (h:some a=some b):a=b:=bb h
theorem bo (b:Bool):b=true∨b=false:=Bool.eq_false_or_eq_true b
theorem Own.sD {c:Cx} {G:Gm} {F:List En} (O:Own c G F) (n:Nat) (ks:List Nat) (h1:Cp n ks=true:=by kernel_rfl) (h2:Nat.ble n F.length=true:=by kernel_rfl):Own c G (ks.map (fun i=>F.getD i sV)++F.drop n):=O.selD n ks h1 h2
section
variable {P:Program} {c c':Cx} {G:Gm} {F:List En} {α:Type} {R:Rp α} {ρ:Operand→Value} {o:Oper} {fn:Func}
variable {n:Fr} {ops:Array Oper} {Q:Exit→(Nat→Value)→World→Prop} {rest:List Oper} {e:Nat→Value} {D:List Nat} {K:Cx→Prop} {l:List Oper} {fuel:Nat} {li:List Bool} {a b:Code} {w:World}
theorem vx {s:Sem Value} {v:Value} (h0:s.run P w= .ok v w) (h:WL P ops n Q rest (upO e o.dst v) w) (hg:o.guard=none:=by exact rfl) (hx:execOp (ev n e) o=(do pure (Next.value (←s)):Sem Next):=by kernel_rfl):WL P ops n Q (o :: rest) e w:=WL.val0 hg (rx hx h0) h
theorem vr (v:Value) (hr:(execOp (ev n e) o).run P w= .ok (.value v) w) (h:WL P ops n Q rest (upO e o.dst v) w) (hg:o.guard=none:=by exact rfl):WL P ops n Q (o :: rest) e w:=WL.val0 hg hr h
theorem cl {f:FuncId} {args:Array Value} {X:Cx→Value→Prop} (hc:Calls P f args c.w (aT c X)) (h:∀v c',c.le c'→X c' v→WL P ops n Q rest (upO e o.dst v) c'.w) (hg:o.guard=none:=by exact rfl) (hr:(execOp (ev n e) o).run P c.w= .ok (.enter f args) c.w:=by kernel_rfl):WL P ops n Q (o :: rest) e c.w:=WL.callP hg hr hc h
theorem me {X:Value→Cx→Prop} (hr:∃v c',(execOp (ev n e) o).run P c.w= .ok (.value v) c'.w∧c.le c'∧X v c') (h:∀v c',c.le c'→X v c'→WL P ops n Q rest (upO e o.dst v) c'.w) (hg:o.guard=none:=by exact rfl):WL P ops n Q (o :: rest) e c.w:=WL.mem hg hr h
theorem md {X:Cx→Prop} (hr:∃c',(execOp (ev n e) o).run P c.w= .ok .skip c'.w∧c.le c'∧X c') (h:∀c',c.le c'→X c'→WL P ops n Q rest (upO e o.dst undef) c'.w) (hg:o.guard=none:=by exact rfl):WL P ops n Q (o :: rest) e c.w:=WL.memD hg hr h
theorem cn {α:Type} {t:Bool} {x y:Option α} {r:α} {cd:Operand} (H:(if t=true then x else y)=some r) (h1:t=true→x=some r→W P n a Q e w) (h2:t=false→y=some r→W P n b Q e w) (hc:ev n e cd= .bool t:=by kernel_rfl):W P n (.cond cd a b) Q e w:=
 W.cond hc (fun h=>h1 h (it h H)) (fun h=>h2 h (ie h H))
theorem lp {σ τ:Type} {step:σ→Option (σ ⊕ τ)} {fuel:Nat} {s:σ} {t:τ} (H:cJ fuel step s=some t) (F:σ→(Nat→Value)→World→Prop) (Out:τ→Exit→(Nat→Value)→World→Prop)
  (hb:∀s x e w,step s=some x→F s e w→W P n a (lpQ F Out x) e w) (h0:F s e w) (hQ:∀x e w,Out t x e w→Q x e w):W P n (.loop a) Q e w:=W.loop F Out hb H h0 hQ
theorem en {P:Program} {f:FuncId} {fn:Func} {code:Code} {n:Nat} {l:List Value} {w:World} {R:Ending→World→Prop} (hf:P.funcs[f]? = some fn) (hb:fn.body=some code) (hn:fn.ntmps=n) (h:W P ⟨n,[],none⟩ code (nk P fn ⟨n,[],none⟩ R) (ar l) w) (hl:Nat.ble l.length n=true:=by rfl):Calls P f l.toArray w R:=enter hf hb hn hl h
theorem tx (i:Nat) {s:Sem Value} {v:Value} (h0:∀c',c.le c'→s.run P c'.w= .ok v c'.w) (h:AC D K P l n Q fuel (li.set i true) (upO e o.dst v) c) (hi:l.toArray[i]? = some o:=by exact rfl) (ht:tk l n li i=true:=by kernel_rfl) (hw:iD l.toArray n e o=true:=by kernel_rfl)
  (hx:execOp (ev n e) o=(do pure (Next.value (←s)):Sem Next):=by kernel_rfl):AC D K P l n Q (fuel+1) li e c:=AC.take i v hi ht hw (fun c' k=>rx hx (h0 c' k)) h
theorem tkx (i:Nat) {s:Sem Value} {v:Value} (p:K c) (h0:∀c',c.le c'→K c'→s.run P c'.w= .ok v c'.w) (h:AC D K P l n Q fuel (li.set i true) (upO e o.dst v) c) (hi:l.toArray[i]? = some o:=by exact rfl) (ht:tk l n li i=true:=by kernel_rfl) (hB:okB l.toArray li i D=true:=by kernel_rfl)
  (hw:iD l.toArray n e o=true:=by kernel_rfl) (hx:execOp (ev n e) o=(do pure (Next.value (←s)):Sem Next):=by kernel_rfl):AC D K P l n Q (fuel+1) li e c:=AC.takeK i v p hi ht hB hw (fun c' k q=>rx hx (h0 c' k q)) h
theorem tp (i:Nat) (h:AC D K P l n Q fuel (li.set i true) (upO e o.dst undef) c) (hi:l.toArray[i]? = some o:=by exact rfl) (ht:tk l n li i=true:=by kernel_rfl) (hw:iD l.toArray n e o=false:=by kernel_rfl):AC D K P l n Q (fuel+1) li e c:=AC.pass i hi ht hw h
theorem dn (h:Q .normal e c.w) (hr:Region.ready .any l.toArray li.toArray= []:=by kernel_rfl):AC D K P l n Q fuel li e c:=AC.done hr h
theorem o1 (i:Nat) (h:Go1 D K P l n Q fuel li e c i) (hr:Region.ready .any l.toArray li.toArray= [i]:=by kernel_rfl):AC D K P l n Q (fuel+1) li e c:=AC.one i hr h
theorem mn2 (i j:Nat) (h1:Go1 D K P l n Q fuel li e c i) (h2:Go1 D K P l n Q fuel li e c j) (hr:Region.ready .any l.toArray li.toArray= [i,j]:=by kernel_rfl):AC D K P l n Q (fuel+1) li e c:=AC.many [i,j] (by simp) hr ⟨h1,h2,trivial⟩
theorem gm (i:Nat) {X:Value→Cx→Prop} (hr:∃v c',(execOp (ev n e) o).run P c.w= .ok (.value v) c'.w∧c.le c'∧X v c') (h:∀v c',c.le c'→X v c'→(D.contains i=true∨K c')∧AC D K P l n Q fuel (li.set i true) (upO e o.dst v) c')
  (hi:l.toArray[i]? = some o:=by exact rfl) (hsl:fb n l=true:=by kernel_rfl) (hw:iD l.toArray n e o=true:=by kernel_rfl):Go1 D K P l n Q fuel li e c i:=Go1.mem i hi hsl hw hr h
theorem gD (i:Nat) {X:Cx→Prop} (hr:∃c',(execOp (ev n e) o).run P c.w= .ok .skip c'.w∧c.le c'∧X c') (h:∀c',c.le c'→X c'→(D.contains i=true∨K c')∧AC D K P l n Q fuel (li.set i true) (upO e o.dst undef) c')
  (hi:l.toArray[i]? = some o:=by exact rfl) (hsl:fb n l=true:=by kernel_rfl) (hw:iD l.toArray n e o=true:=by kernel_rfl):Go1 D K P l n Q fuel li e c i:=Go1.memD i hi hsl hw hr h
theorem gc (i:Nat) {f:FuncId} {args:Array Value} {X:Cx→Value→Prop} (hc:Calls P f args c.w (aT c X)) (h:∀v c',c.le c'→X c' v→(D.contains i=true∨K c')∧AC D K P l n Q fuel (li.set i true) (upO e o.dst v) c')
  (hi:l.toArray[i]? = some o:=by exact rfl) (hsl:fb n l=true:=by kernel_rfl) (hw:iD l.toArray n e o=true:=by kernel_rfl) (hr:(execOp (ev n e) o).run P c.w= .ok (.enter f args) c.w:=by kernel_rfl):Go1 D K P l n Q fuel li e c i:=Go1.callP i hi hsl hw hr hc h
theorem gl (i:Nat) {s:Sem Value} {v:Value} (h0:s.run P c.w= .ok v c.w) (h:AC D K P l n Q fuel (li.set i true) (upO e o.dst v) c)
  (hi:l.toArray[i]? = some o:=by exact rfl) (hsl:fb n l=true:=by kernel_rfl) (hw:iD l.toArray n e o=true:=by kernel_rfl) (hx:execOp (ev n e) o=(do pure (Next.value (←s)):Sem Next):=by kernel_rfl) (hk:D.contains i=true:=by kernel_rfl):Go1 D K P l n Q fuel li e c i:=Go1.late i v hi hsl hw (rx hx h0) hk h
theorem rD (D:List Nat) (K:Cx→Prop) {id:Nat} (O:Own c G F) (h:∀c',c.le c'→Own c' G F→AC D K P l n Q l.length (List.replicate l.length false) e c') (hm:P.follows .mixedOrders=true:=by kernel_rfl):W P n (.region id l.toArray true) Q e c.w:=W.regionD D K O hm h
theorem l1 {T:TypeId} {b o:Nat} {v:Value} {d:TypeDesc} (hT:P.underlying T=some d) (h:Im c b o v) (hd:(match d with | .struct _ | .array _ _=>false | _=>true)=true:=by rfl):(Instr.loadAt T (.pointer (some ⟨b,o,none⟩))).run P c.w= .ok v c.w:=Bg hT hd h
theorem lN (T:TypeId) {b o:Nat} {l:List Value} (h:∀j u,l[j]? = some u→Im c b (o+j) u) (hT:(P.underlying T).map (fun d=>match d with | .struct _ | .array _ _=>true | _=>false)=some true:=by kernel_rfl) (hs:(P.info? T).map (·.size)=some l.length:=by kernel_rfl):
  (Instr.loadAt T (.pointer (some ⟨b,o,none⟩))).run P c.w= .ok (.agg l.toArray) c.w:=Bf hT hs h
theorem le1 (j:Nat) {T:TypeId} {e:En} {b:Nat} {v:Value} {d:TypeDesc} (hT:P.underlying T=some d) (h:e.on c) (hd:(match d with | .struct _ | .array _ _=>false | _=>true)=true:=by rfl) (hb:blk e.v=some b:=by rfl) (hj:e.vs[j]? = some v:=by rfl):
  (Instr.loadAt T (.pointer (some ⟨b,j,none⟩))).run P c.w= .ok v c.w:=ry hT hd h hb hj
theorem leN (T j:Nat) (l:List Value) {e:En} {b:Nat} (h:e.on c) (hT:(P.underlying T).map (fun d=>match d with | .struct _ | .array _ _=>true | _=>false)=some true:=by kernel_rfl) (hs:(P.info? T).map (·.size)=some l.length:=by kernel_rfl) (hb:blk e.v=some b:=by rfl) (hl:(e.vs.drop j).take l.length=l:=by rfl):
  (Instr.loadAt T (.pointer (some ⟨b,j,none⟩))).run P c.w= .ok (.agg l.toArray) c.w:=EO hT hs h hb hl
theorem ix {v:Value} {xs:List α} {T E:TypeId} {i:Int} {x:α} (hT:P.underlying T=some (.slice E)) (h:Sl R c v xs) (hi:idx xs i=some x) (hE:(P.info? E).map (·.size)=some R.size:=by kernel_rfl):
  (Instr.indexAt T v (.int .i64 i)).run P w= .ok (.pointer (some ⟨sb v,so v+i.toNat * R.size,none⟩)) w:=Bh hT hE h hi w
theorem ixO {v:Value} {vs:List Value} {xs:List α} {T E:TypeId} {i:Int} {x:α} (hT:P.underlying T=some (.slice E)) (h:OA R c v vs xs) (hi:idx xs i=some x) (hE:(P.info? E).map (·.size)=some R.size:=by kernel_rfl):
  (Instr.indexAt T v (.int .i64 i)).run P w= .ok (.pointer (some ⟨sb v,i.toNat * R.size,none⟩)) w:=zq hT hE h hi w
theorem ln {v:Value} {xs:List α} {T E:TypeId} (ty:TypeId) (hT:P.underlying T=some (.slice E)) (h:Sl R c v xs):(Builtin.len_ #[T] ty #[v]).run P w= .ok (.int .i64 (xs.length:Int)) w:=Ei hT h w
theorem lnO {v:Value} {vs:List Value} {xs:List α} {T E:TypeId} (ty:TypeId) (hT:P.underlying T=some (.slice E)) (h:OA R c v vs xs):(Builtin.len_ #[T] ty #[v]).run P w= .ok (.int .i64 (xs.length:Int)) w:=Cu hT h w
theorem bx (T:TypeId) (vs:List Value) (O:Own c G F) (hr:(execOp ρ o).run P c.w= .ok (.value (.pointer (some ⟨c.w.heap.size,0,none⟩))) (c.w.alloc (.cells vs.toArray T)):=by kernel_rfl):
  ∃v c',(execOp ρ o).run P c.w= .ok (.value v) c'.w∧c.le c'∧∃b,v= .pointer (some ⟨b,0,none⟩)∧Own c' G F∧∀j u,vs[j]? = some u→Im c' b (0+j) u:=Own.bx O hr
theorem al (T:TypeId) (vs:List Value) (O:Own c G F) (hr:(execOp ρ o).run P c.w= .ok (.value (.pointer (some ⟨c.w.heap.size,0,none⟩))) (c.w.alloc (.cells vs.toArray T)):=by kernel_rfl):
  ∃v c',(execOp ρ o).run P c.w= .ok (.value v) c'.w∧c.le c'∧∃b,v= .pointer (some ⟨b,0,none⟩)∧Own c' G (⟨.pointer (some ⟨b,0,none⟩),T,vs,0⟩ :: F):=Own.al O hr
theorem sA (T:TypeId) (us:List Value) {e:En} {b:Nat} (k:Nat) (O:Own c G F) (h1:lY us) (hx:execOp ρ o=(do Instr.storeAt T (.pointer (some ⟨b,0,none⟩)) (.agg us.toArray); pure Next.skip:Sem Next):=by kernel_rfl) (hk:F[k]? = some e:=by rfl) (hb:blk e.v=some b:=by rfl) (hlim:e.lim=0:=by rfl)
  (hs:(P.info? T).map (·.size)=some us.length:=by kernel_rfl) (hl:Nat.ble (0+us.length) e.vs.length=true:=by rfl) (hn:e.vs.take 0++us++e.vs.drop (0+us.length)=us:=by rfl):∃c',(execOp ρ o).run P c.w= .ok .skip c'.w∧c.le c'∧Own c' G (F.set k ⟨e.v,e.T,us,0⟩):=Own.st k O hx hk hb hlim rfl hs h1 hl hn
theorem sB (T j:Nat) (us nw:List Value) {e:En} {b:Nat} (k:Nat) (O:Own c G F) (h1:lY us) (hx:execOp ρ o=(do Instr.storeAt T (.pointer (some ⟨b,j,none⟩)) (.agg us.toArray); pure Next.skip:Sem Next):=by kernel_rfl) (hk:F[k]? = some e:=by rfl) (hb:blk e.v=some b:=by rfl) (hlim:e.lim=0:=by rfl)
  (hs:(P.info? T).map (·.size)=some us.length:=by kernel_rfl) (hl:Nat.ble (j+us.length) e.vs.length=true:=by rfl) (hn:e.vs.take j++us++e.vs.drop (j+us.length)=nw:=by rfl):∃c',(execOp ρ o).run P c.w= .ok .skip c'.w∧c.le c'∧Own c' G (F.set k ⟨e.v,e.T,nw,0⟩):=Own.st k O hx hk hb hlim rfl hs h1 hl hn
theorem DA {v:Value} (h:v.oneCell'=true):v.cells.toList= [v]:=by
 cases v <;> first | rfl | (simp [Value.oneCell'] at h)
theorem sC (T j:Nat) (v:Value) (nw:List Value) {e:En} {b:Nat} (k:Nat) (O:Own c G F) (h1:lY [v]) (hx:execOp ρ o=(do Instr.storeAt T (.pointer (some ⟨b,j,none⟩)) v; pure Next.skip:Sem Next):=by kernel_rfl) (hk:F[k]? = some e:=by rfl) (hb:blk e.v=some b:=by rfl) (hlim:e.lim=0:=by rfl)
  (hs:(P.info? T).map (·.size)=some 1:=by kernel_rfl) (hl:Nat.ble (j+1) e.vs.length=true:=by rfl) (hn:e.vs.take j++ [v]++e.vs.drop (j+1)=nw:=by rfl):∃c',(execOp ρ o).run P c.w= .ok .skip c'.w∧c.le c'∧Own c' G (F.set k ⟨e.v,e.T,nw,0⟩):=Own.st k O hx hk hb hlim (DA h1.1) hs h1 hl hn
theorem gB (T j:Nat) (us nw:List Value) {e:En} {b g k:Nat} {E:List En} (r:Nat) (O:Own c G F) (hE:G g k=E) (h1:lY us) (hx:execOp ρ o=(do Instr.storeAt T (.pointer (some ⟨b,j,none⟩)) (.agg us.toArray); pure Next.skip:Sem Next):=by kernel_rfl) (hr:E[r]? = some e:=by rfl) (hb:blk e.v=some b:=by rfl) (hlim:e.lim=0:=by rfl)
  (hs:(P.info? T).map (·.size)=some us.length:=by kernel_rfl) (hl:Nat.ble (j+us.length) e.vs.length=true:=by rfl) (hn:e.vs.take j++us++e.vs.drop (j+us.length)=nw:=by rfl):∃c',(execOp ρ o).run P c.w= .ok .skip c'.w∧c.le c'∧Own c' (jl G g k (E.set r ⟨e.v,e.T,nw,0⟩)) F:=Own.stG r O hx hE hr hb hlim rfl hs h1 hl hn
theorem gC (T j:Nat) (v:Value) (nw:List Value) {e:En} {b g k:Nat} {E:List En} (r:Nat) (O:Own c G F) (hE:G g k=E) (h1:lY [v]) (hx:execOp ρ o=(do Instr.storeAt T (.pointer (some ⟨b,j,none⟩)) v; pure Next.skip:Sem Next):=by kernel_rfl) (hr:E[r]? = some e:=by rfl) (hb:blk e.v=some b:=by rfl) (hlim:e.lim=0:=by rfl)
  (hs:(P.info? T).map (·.size)=some 1:=by kernel_rfl) (hl:Nat.ble (j+1) e.vs.length=true:=by rfl) (hn:e.vs.take j++ [v]++e.vs.drop (j+1)=nw:=by rfl):∃c',(execOp ρ o).run P c.w= .ok .skip c'.w∧c.le c'∧Own c' (jl G g k (E.set r ⟨e.v,e.T,nw,0⟩)) F:=Own.stG r O hx hE hr hb hlim (DA h1.1) hs h1 hl hn
theorem sl (R:Rp α) (E:TypeId) (ls:List (List Value)) (xs:List α) (O:Own c G F) (hR:nQ R c ls xs) (hp:0 < R.size:=by exact aX _) (hm:Nat.ble xs.length 4294967296=true:=by kernel_rfl)
  (hr:(execOp ρ o).run P c.w= .ok (.value (.slice (some ⟨c.w.heap.size,0,none⟩) xs.length xs.length)) (c.w.alloc (.cells ls.flatten.toArray E)):=by kernel_rfl):
  ∃v c',(execOp ρ o).run P c.w= .ok (.value v) c'.w∧c.le c'∧∃vs,Own c' G (es true R v E vs xs :: F)∧OA R c' v vs xs:=Own.sl true O hp rfl hR hm hr
theorem ap (R:Rp α) (z:Value) (by_ ty:Nat) {E t:TypeId} {v u:Value} {vs:List Value} {xs ys zs:List α} {m:Bool} (k:Nat) (O:Own c G F) (h:OA R c v vs xs) (hS:Sl R c u ys) (happ:app xs ys=some zs) (hT:P.underlying t=some (.slice E)) (hk:F[k]? = some (es m R v E vs xs):=by rfl)
  (hi:(P.info? E).map (fun i=>(i.zero,i.size,i.bytes))=some (some z,R.size,by_):=by kernel_rfl) (hz:z.cells.size=R.size:=by rfl) (hby:Nat.ble by_ 128=true:=by kernel_rfl) (hx:execOp ρ o=(do pure (Next.value (←Builtin.append_ #[t,t] ty #[v,u])):Sem Next):=by kernel_rfl):
  ∃v' c',(execOp ρ o).run P c.w= .ok (.value v') c'.w∧c.le c'∧∃vs',Own c' G (F.set k (es m R v' E vs' zs))∧OA R c' v' vs' zs:=Own.app k O hk h hS happ hT hi hz hby hx
variable {RR:Ending→World→Prop}
theorem r0 (h:RR (.returned (.tuple #[])) w) (hr:fn.results= #[]:=by rfl):nk P fn n RR .ret e w:=IF hr h
theorem n0 (h:RR (.returned (.tuple #[])) w) (hr:fn.results= #[]:=by rfl):nk P fn n RR .normal e w:=IM hr h
theorem r1 {t:Nat} {v:Value} (h:RR (.returned v) w) (hr:fn.results= #[.tmp t]:=by rfl) (hv:ev n e (.tmp t)=v:=by kernel_rfl):nk P fn n RR .ret e w:=CD hr hv h
theorem r2 {t u:Nat} {v v':Value} (h:RR (.returned (.tuple #[v,v'])) w) (hr:fn.results= #[.tmp t,.tmp u]:=by rfl) (hv:ev n e (.tmp t)=v:=by kernel_rfl) (hu:ev n e (.tmp u)=v':=by kernel_rfl):nk P fn n RR .ret e w:=IE hr hv hu h
theorem r3 {t u s:Nat} {v v' v'':Value} (h:RR (.returned (.tuple #[v,v',v''])) w) (hr:fn.results= #[.tmp t,.tmp u,.tmp s]:=by rfl) (hv:ev n e (.tmp t)=v:=by kernel_rfl) (hu:ev n e (.tmp u)=v':=by kernel_rfl) (hs:ev n e (.tmp s)=v'':=by kernel_rfl):nk P fn n RR .ret e w:=ID hr hv hu hs h
end
abbrev I (x:Int):Value:= .int .i64 x
abbrev J (x:Int):Value:= .int .i32 x
abbrev B (x:Bool):Value:= .bool x
abbrev Q (b:Nat):Value:= .pointer (some ⟨b,0,none⟩)
abbrev Qo (b o:Nat):Value:= .pointer (some ⟨b,o,none⟩)
abbrev aF (a b c:Int):Value:= .agg #[I a,I b,I c]
abbrev III (a b:Int):Value:= .agg #[I a,I b]
abbrev Jm (a b c:Int):Value:= .agg #[J a,J b,J c]
abbrev JII (a b:Int):Value:= .agg #[J a,J b]
abbrev Y:Value:= .slice none 0 0
abbrev Eb (b:Nat) (T:TypeId) (l:List Value):En:=⟨.pointer (some ⟨b,0,none⟩),T,l,0⟩
end Go.Lt
namespace Go.Lt
def tU (l:List Int):ByteArray:=⟨(l.map fun x=>UInt8.ofNat x.toNat).toArray⟩
def eqS (a b:ByteArray):Bool:=a.data.toList==b.data.toList
theorem Ej {P:Program} {ρ:Operand→Value} {o:Oper} {a b:ByteArray} {w:World} (hr:(execOp ρ o).run P w= .ok (.value (.bool (a.toList==b.toList))) w):(execOp ρ o).run P w= .ok (.value (.bool (eqS a b))) w:=by
 rw [hr,pi,pi];rfl
theorem Eh {P:Program} {ρ:Operand→Value} {o:Oper} {a b:ByteArray} {w:World} (hr:(execOp ρ o).run P w= .ok (.value (.bool (!(a.toList==b.toList)))) w):(execOp ρ o).run P w= .ok (.value (.bool (!eqS a b))) w:=by
 rw [hr,pi,pi];rfl
theorem ve:∀(l:List Int) (r:ByteArray),l.foldl (fun r n=>r.push (UInt8.ofNat n.toNat)) r=⟨r.data++(tU l).data⟩
 | [],r=>by simp [tU]
 | x :: l,r=>by
  rw [tL,ve l];simp [tU,ByteArray.push]
theorem x9 {P:Program} {c:Cx} {src dst e:TypeId} {v:Value} {xs:List Int} (hs:P.underlying src=some (.slice e)) (he:P.underlying e=some (.int .u8)) (hd:P.underlying dst=some .string) (h:Sl (RI .u8) c v xs):
  (convert src dst v).run P c.w= .ok (.string (tU xs)) c.w:=by
 obtain ⟨a,cap,rfl,_,_,h4⟩:=h;rw [run_convert_bytes_string c.w src dst e a xs.length cap hs he hd]
 cases xs with
 | nil=>
  cases a with
  | none=>rfl
  | some ad=>
   have:=I4 (P:=P) c.w ad 0 cap [] (by simp [loadCells,loadCellsFrom]);exact this
 | cons y t=>
  obtain ⟨b,off,l,rfl,_,_⟩:=h4 0 y rfl;have hl:=IC (P:=P) (w:=c.w) ⟨b,off,none⟩ ((y :: t).map (Value.int .u8)) (fun j v hj=>by
   rw [bK,Hg] at hj;obtain ⟨x,hx,rfl⟩:=hj;obtain ⟨b',off',l',e,hl,hc⟩:=h4 j x hx;cases e;have:=(hc 0 _ (by rw [show l'= [.int .u8 x] from hl]; rfl)).cell;rw [show off+j * (RI .u8).size+0=off+j by show off+j * 1+0=off+j; omega] at this;rw [dj];exact this)
  rw [bZ] at hl;rw [I4 c.w ⟨b,off,none⟩ (y :: t).length cap (y :: t) hl,ve,show ByteArray.empty.data= #[] from rfl,xF]
abbrev T2:=Int×Int
def a2 (t:T2):List Int:=[t.1,t.2]
end Go.Lt
namespace Go.Proofs.YtclmdpamofdoiaaGreatDoor
open Go Go.Lt
set_option linter.unusedVariables false
structure ah where
 Row:Int
 Col:Int
 Pending:Bool
def Fw:Rp ah where
 size:=3
 cells:=fun _ l x=>l= [.int .i64 x.Row,.int .i64 x.Col,.bool x.Pending]
 len:=by
  intro c l x h
  obtain rfl:=h
  rfl
 one:=by
  intro c l x h v hv
  obtain rfl:=h
  simp only [iP,fj,oe] at hv
  rcases hv with rfl | rfl | rfl
  ·rfl
  ·rfl
  ·rfl
 mono:=by
  intro c c2 l x hc h
  obtain rfl:=h
  exact rfl
structure aa where
 Kind:Int
 Text:List Int
def az:Rp aa where
 size:=2
 cells:=fun c l x=>∃y1:Value,l= [.int .i64 x.Kind,y1]∧Sl (RI .i32) c y1 x.Text
 len:=by
  intro c l x h
  obtain ⟨_,rfl,h0⟩:=h
  rfl
 one:=by
  intro c l x h v hv
  obtain ⟨_,rfl,h0⟩:=h
  simp only [iP,fj,oe] at hv
  rcases hv with rfl | rfl
  ·rfl
  ·exact h0.one
 mono:=by
  intro c c2 l x hc h
  obtain ⟨_,rfl,h0⟩:=h
  exact ⟨_,rfl,h0.lw hc⟩
structure am where
 Cells:List aa
 Wrap:Bool
def cY:Rp am where
 size:=2
 cells:=fun c l x=>∃y1:Value,l= [y1,.bool x.Wrap]∧Sl az c y1 x.Cells
 len:=by
  intro c l x h
  obtain ⟨_,rfl,h0⟩:=h
  rfl
 one:=by
  intro c l x h v hv
  obtain ⟨_,rfl,h0⟩:=h
  simp only [iP,fj,oe] at hv
  rcases hv with rfl | rfl
  ·exact h0.one
  ·rfl
 mono:=by
  intro c c2 l x hc h
  obtain ⟨_,rfl,h0⟩:=h
  exact ⟨_,rfl,h0.lw hc⟩
structure ag where
 L:List am
 At:ah
 Auto:Bool
structure bu where
 Kind:Int
 A:Int
 B:Int
 Bytes:List Int
def vH:Rp bu where
 size:=4
 cells:=fun c l x=>∃y1:Value,l= [.int .i64 x.Kind,.int .i64 x.A,.int .i64 x.B,y1]∧Sl (RI .u8) c y1 x.Bytes
 len:=by
  intro c l x h
  obtain ⟨_,rfl,h0⟩:=h
  rfl
 one:=by
  intro c l x h v hv
  obtain ⟨_,rfl,h0⟩:=h
  simp only [iP,fj,oe] at hv
  rcases hv with rfl | rfl | rfl | rfl
  ·rfl
  ·rfl
  ·rfl
  ·exact h0.one
 mono:=by
  intro c c2 l x hc h
  obtain ⟨_,rfl,h0⟩:=h
  exact ⟨_,rfl,h0.lw hc⟩
structure eW where
 Wide:Int
 High:Int
 Lines:List am
 At:ah
 Auto:Bool
structure dJ where
 Wide:Int
 Text:List Int
def go:Rp dJ where
 size:=2
 cells:=fun c l x=>∃y1:Value,l= [.int .i64 x.Wide,y1]∧Sl (RI .i32) c y1 x.Text
 len:=by
  intro c l x h
  obtain ⟨_,rfl,h0⟩:=h
  rfl
 one:=by
  intro c l x h v hv
  obtain ⟨_,rfl,h0⟩:=h
  simp only [iP,fj,oe] at hv
  rcases hv with rfl | rfl
  ·rfl
  ·exact h0.one
 mono:=by
  intro c c2 l x hc h
  obtain ⟨_,rfl,h0⟩:=h
  exact ⟨_,rfl,h0.lw hc⟩
structure bA where
 held:Int
 needs:Int
 lo:Int
 hi:Int
 bits:Int
structure br where
 some:Bool
 last:Int
 pict:Int
 conj:Int
 odd:Bool
structure ao where
 Break:Int
 Pict:Bool
 Conj:Int
 East:Int
def dV:Rp ao where
 size:=4
 cells:=fun _ l x=>l= [.int .i64 x.Break,.bool x.Pict,.int .i64 x.Conj,.int .i64 x.East]
 len:=by
  intro c l x h
  obtain rfl:=h
  rfl
 one:=by
  intro c l x h v hv
  obtain rfl:=h
  simp only [iP,fj,oe] at hv
  rcases hv with rfl | rfl | rfl | rfl
  ·rfl
  ·rfl
  ·rfl
  ·rfl
 mono:=by
  intro c c2 l x hc h
  obtain rfl:=h
  exact rfl
structure aS where
 some:Bool
 pict:Bool
 wide:Bool
structure aJ where
 text:Int×Int×Int×Int×Int×Int×Int×Int×Int×Int×Int×Int×Int×Int×Int×Int
 n:Int
structure gL where
 from_:Int
 to_:Int
 n:Int
def qJ:Rp (Int×Int) where
 size:=2
 cells:=fun _ l x=>l= [.int .i32 x.1,.int .i32 x.2]
 len:=by
  intro c l x h
  obtain rfl:=h
  rfl
 one:=by
  intro c l x h v hv
  obtain rfl:=h
  simp only [iP,fj,oe] at hv
  rcases hv with rfl | rfl
  ·rfl
  ·rfl
 mono:=fun _ h=>h
def aW:Rp (Int×Int) where
 size:=2
 cells:=fun _ l x=>l= [.int .i64 x.1,.int .i64 x.2]
 len:=by
  intro c l x h
  obtain rfl:=h
  rfl
 one:=by
  intro c l x h v hv
  obtain rfl:=h
  simp only [iP,fj,oe] at hv
  rcases hv with rfl | rfl
  ·rfl
  ·rfl
 mono:=fun _ h=>h
def iu:Rp (Int×Int×Int) where
 size:=3
 cells:=fun _ l x=>l= [.int .i64 x.1,.int .i64 x.2.1,.int .i64 x.2.2]
 len:=by
  intro c l x h
  obtain rfl:=h
  rfl
 one:=by
  intro c l x h v hv
  obtain rfl:=h
  simp only [iP,fj,oe] at hv
  rcases hv with rfl | rfl | rfl
  ·rfl
  ·rfl
  ·rfl
 mono:=fun _ h=>h
structure bh where
 cells:List aa
 wrap:Bool
structure bS where
 rows:List (Option Nat)
structure bj where
 G:Option Nat
 At:ah
 Auto:Bool
structure aY where
 at_:ah
 wide:Int
 text:aJ
 gauge:aS
structure bC where
 pen:Option Nat
 dec:bA
 seg:br
 open_:Option Nat
structure ey where
 Feeder:Option Nat
 pen:Option Nat
structure bq where
 w:Int
 room:Int
 out:List (List Int)
 line:List Int
def dZ (G G':Gm):Prop:=∀g k,G g k≠ []→G' g k=G g k
theorem dZ.refl (G:Gm):dZ G G:=fun _ _ _=>rfl
theorem dZ.trans {a b c:Gm} (h:dZ a b) (k:dZ b c):dZ a c:=fun g i hi=>(k g i (by rw [h g i hi]; exact hi)).trans (h g i hi)
theorem dZ.get {G G':Gm} {g k:Nat} {e:En} {l:List En} (h:dZ G G') (hE:G g k=e :: l):G' g k=e :: l:=(h g k (by rw [hE]; exact Jk _ _)).trans hE
theorem dZ.nil {G G':Gm} {g k:Nat} (h:dZ G G') (hE:G' g k= []):G g k= []:=by
 by_cases hn:G g k= []
 ·exact hn
 ·rw [h g k hn] at hE; exact hE
structure Sto where
 row_Row:List bh
 grid_Grid:List bS
 place_Pen:List bj
 widen_Cluster:List aY
 feed_Feeder:List bC
 screen_Screen:List ey
 fitline_breaker:List bq
def Sto.set_row_Row (s:Sto) (k:Nat) (x:bh):Option Sto:=if k < s.row_Row.length then some { s with row_Row:=s.row_Row.set k x} else none
def Sto.add_row_Row (s:Sto) (x:bh):Sto:={ s with row_Row:=s.row_Row++ [x]}
def jK (c:Cx) (t:Option Nat) (E:List En) (x:bh):Prop:=∃(b:Nat) (y1:Value) (u1:List Value),t=some b∧E= [⟨.pointer (some ⟨b,0,none⟩),253,[y1,.bool x.wrap],0⟩,es true az y1 114 u1 x.cells]∧OA az c y1 u1 x.cells
theorem jK.lw {c c':Cx} (k:c.lw c') (b:Nat) (E:List En) (x:bh):jK c (some b) E x→jK c' (some b) E x:=by
 rintro ⟨b,y1,u1,e1,e2,h0⟩;exact ⟨b,y1,u1,e1,e2,h0.lw k⟩
theorem jK.no {c:Cx} (E:List En) (x:bh):¬jK c none E x:=by
 rintro ⟨b,y1,u1,e1,_⟩;cases e1
def Sto.set_grid_Grid (s:Sto) (k:Nat) (x:bS):Option Sto:=if k < s.grid_Grid.length then some { s with grid_Grid:=s.grid_Grid.set k x} else none
def Sto.add_grid_Grid (s:Sto) (x:bS):Sto:={ s with grid_Grid:=s.grid_Grid++ [x]}
def gH (c:Cx) (t:Option Nat) (E:List En) (x:bS):Prop:=∃(b:Nat) (y1:Value) (u1:List Value),t=some b∧E= [⟨.pointer (some ⟨b,0,none⟩),176,[y1],0⟩,es true (RP 0) y1 168 u1 x.rows]∧OA (RP 0) c y1 u1 x.rows
theorem gH.lw {c c':Cx} (k:c.lw c') (b:Nat) (E:List En) (x:bS):gH c (some b) E x→gH c' (some b) E x:=by
 rintro ⟨b,y1,u1,e1,e2,h0⟩;exact ⟨b,y1,u1,e1,e2,h0.lw k⟩
theorem gH.no {c:Cx} (E:List En) (x:bS):¬gH c none E x:=by
 rintro ⟨b,y1,u1,e1,_⟩;cases e1
def Sto.set_place_Pen (s:Sto) (k:Nat) (x:bj):Option Sto:=if k < s.place_Pen.length then some { s with place_Pen:=s.place_Pen.set k x} else none
def Sto.add_place_Pen (s:Sto) (x:bj):Sto:={ s with place_Pen:=s.place_Pen++ [x]}
def gG (c:Cx) (t:Option Nat) (E:List En) (x:bj):Prop:=∃(b:Nat) (y1:Value),t=some b∧E= [⟨.pointer (some ⟨b,0,none⟩),126,[y1,.int .i64 x.At.Row,.int .i64 x.At.Col,.bool x.At.Pending,.bool x.Auto],0⟩]∧Pt 1 c y1 x.G
theorem gG.lw {c c':Cx} (k:c.lw c') (b:Nat) (E:List En) (x:bj):gG c (some b) E x→gG c' (some b) E x:=by
 rintro ⟨b,y1,e1,e2,h0⟩;exact ⟨b,y1,e1,e2,h0.lw k⟩
theorem gG.no {c:Cx} (E:List En) (x:bj):¬gG c none E x:=by
 rintro ⟨b,y1,e1,_⟩;cases e1
def Sto.set_widen_Cluster (s:Sto) (k:Nat) (x:aY):Option Sto:=if k < s.widen_Cluster.length then some { s with widen_Cluster:=s.widen_Cluster.set k x} else none
def Sto.add_widen_Cluster (s:Sto) (x:aY):Sto:={ s with widen_Cluster:=s.widen_Cluster++ [x]}
def dL (c:Cx) (t:Option Nat) (E:List En) (x:aY):Prop:=∃(b:Nat),t=some b∧E= [⟨.pointer (some ⟨b,0,none⟩),338,[.int .i64 x.at_.Row,.int .i64 x.at_.Col,.bool x.at_.Pending,.int .i64 x.wide,.int .i32 x.text.text.1,.int .i32 x.text.text.2.1,.int .i32 x.text.text.2.2.1,.int .i32 x.text.text.2.2.2.1,.int .i32 x.text.text.2.2.2.2.1,.int .i32 x.text.text.2.2.2.2.2.1,.int .i32 x.text.text.2.2.2.2.2.2.1,.int .i32 x.text.text.2.2.2.2.2.2.2.1,.int .i32 x.text.text.2.2.2.2.2.2.2.2.1,.int .i32 x.text.text.2.2.2.2.2.2.2.2.2.1,.int .i32 x.text.text.2.2.2.2.2.2.2.2.2.2.1,.int .i32 x.text.text.2.2.2.2.2.2.2.2.2.2.2.1,.int .i32 x.text.text.2.2.2.2.2.2.2.2.2.2.2.2.1,.int .i32 x.text.text.2.2.2.2.2.2.2.2.2.2.2.2.2.1,.int .i32 x.text.text.2.2.2.2.2.2.2.2.2.2.2.2.2.2.1,.int .i32 x.text.text.2.2.2.2.2.2.2.2.2.2.2.2.2.2.2,.int .i64 x.text.n,.bool x.gauge.some,.bool x.gauge.pict,.bool x.gauge.wide],0⟩]
theorem dL.lw {c c':Cx} (k:c.lw c') (b:Nat) (E:List En) (x:aY):dL c (some b) E x→dL c' (some b) E x:=by
 rintro ⟨b,e1,e2⟩;exact ⟨b,e1,e2⟩
theorem dL.no {c:Cx} (E:List En) (x:aY):¬dL c none E x:=by
 rintro ⟨b,e1,_⟩;cases e1
def Sto.set_feed_Feeder (s:Sto) (k:Nat) (x:bC):Option Sto:=if k < s.feed_Feeder.length then some { s with feed_Feeder:=s.feed_Feeder.set k x} else none
def Sto.add_feed_Feeder (s:Sto) (x:bC):Sto:={ s with feed_Feeder:=s.feed_Feeder++ [x]}
def eI (c:Cx) (t:Option Nat) (E:List En) (x:bC):Prop:=∃(b:Nat) (y1:Value) (y2:Value),t=some b∧E= [⟨.pointer (some ⟨b,0,none⟩),184,[y1,.int .i64 x.dec.held,.int .i64 x.dec.needs,.int .u8 x.dec.lo,.int .u8 x.dec.hi,.int .i64 x.dec.bits,.bool x.seg.some,.int .i64 x.seg.last,.int .i64 x.seg.pict,.int .i64 x.seg.conj,.bool x.seg.odd,y2],0⟩]∧Pt 2 c y1 x.pen∧Pt 3 c y2 x.open_
theorem eI.lw {c c':Cx} (k:c.lw c') (b:Nat) (E:List En) (x:bC):eI c (some b) E x→eI c' (some b) E x:=by
 rintro ⟨b,y1,y2,e1,e2,h0,h1⟩;exact ⟨b,y1,y2,e1,e2,h0.lw k,h1.lw k⟩
theorem eI.no {c:Cx} (E:List En) (x:bC):¬eI c none E x:=by
 rintro ⟨b,y1,y2,e1,_⟩;cases e1
def Sto.add_screen_Screen (s:Sto) (x:ey):Sto:={ s with screen_Screen:=s.screen_Screen++ [x]}
def ew (c:Cx) (t:Option Nat) (E:List En) (x:ey):Prop:=∃(b:Nat) (y1:Value) (y2:Value),t=some b∧E= [⟨.pointer (some ⟨b,0,none⟩),131,[y1,y2],0⟩]∧Pt 4 c y1 x.Feeder∧Pt 2 c y2 x.pen
theorem ew.lw {c c':Cx} (k:c.lw c') (b:Nat) (E:List En) (x:ey):ew c (some b) E x→ew c' (some b) E x:=by
 rintro ⟨b,y1,y2,e1,e2,h0,h1⟩;exact ⟨b,y1,y2,e1,e2,h0.lw k,h1.lw k⟩
theorem ew.no {c:Cx} (E:List En) (x:ey):¬ew c none E x:=by
 rintro ⟨b,y1,y2,e1,_⟩;cases e1
def Sto.set_fitline_breaker (s:Sto) (k:Nat) (x:bq):Option Sto:=if k < s.fitline_breaker.length then some { s with fitline_breaker:=s.fitline_breaker.set k x} else none
def Sto.add_fitline_breaker (s:Sto) (x:bq):Sto:={ s with fitline_breaker:=s.fitline_breaker++ [x]}
def dd (c:Cx) (t:Option Nat) (E:List En) (x:bq):Prop:=∃(b:Nat) (y1:Value) (u1:List Value) (y3:Value) (u3:List Value),t=some b∧E= [⟨.pointer (some ⟨b,0,none⟩),196,[.int .i64 x.w,.int .i64 x.room,y1,y3],0⟩,es false (RL (RI .i32)) y1 32 u1 x.out,es false (RI .i32) y3 21 u3 x.line]∧OA (RL (RI .i32)) c y1 u1 x.out∧OA (RI .i32) c y3 u3 x.line
theorem dd.lw {c c':Cx} (k:c.lw c') (b:Nat) (E:List En) (x:bq):dd c (some b) E x→dd c' (some b) E x:=by
 rintro ⟨b,y1,u1,y3,u3,e1,e2,h0,h1⟩;exact ⟨b,y1,u1,y3,u3,e1,e2,h0.lw k,h1.lw k⟩
theorem dd.no {c:Cx} (E:List En) (x:bq):¬dd c none E x:=by
 rintro ⟨b,y1,u1,y3,u3,e1,_⟩;cases e1
structure Rel (c:Cx) (s:Sto) (G:Gm):Prop where
 row_Row:Rl jK 0 c G s.row_Row
 grid_Grid:Rl gH 1 c G s.grid_Grid
 place_Pen:Rl gG 2 c G s.place_Pen
 widen_Cluster:Rl dL 3 c G s.widen_Cluster
 feed_Feeder:Rl eI 4 c G s.feed_Feeder
 screen_Screen:Rl ew 5 c G s.screen_Screen
 fitline_breaker:Rl dd 6 c G s.fitline_breaker
theorem Rel.lw {c c':Cx} {s:Sto} {G:Gm} (h:Rel c s G) (k:c.lw c'):Rel c' s G:=
 ⟨h.row_Row.mono (jK.lw k) jK.no k,h.grid_Grid.mono (gH.lw k) gH.no k,h.place_Pen.mono (gG.lw k) gG.no k,h.widen_Cluster.mono (dL.lw k) dL.no k,h.feed_Feeder.mono (eI.lw k) eI.no k,h.screen_Screen.mono (ew.lw k) ew.no k,h.fitline_breaker.mono (dd.lw k) dd.no k⟩
theorem Rel.mono {c c':Cx} {s:Sto} {G:Gm} (h:Rel c s G) (k:c.le c'):Rel c' s G:=h.lw k.lw
theorem Rel.m {c c':Cx} {s:Sto} {G:Gm} (h:Rel c s G) (k:c.le c':=by repeat (first | assumption | refine Cx.le.trans ?_ (by assumption))):Rel c' s G:=h.mono k
theorem Rel.open_row_Row {c:Cx} {s:Sto} {G:Gm} {k b:Nat} {x:bh} (R:Rel c s G) (hx:s.row_Row[k]? = some x) (ht:c.t 0 k=some b):∃(y1:Value) (u1:List Value),G 0 k= [⟨.pointer (some ⟨b,0,none⟩),253,[y1,.bool x.wrap],0⟩,es true az y1 114 u1 x.cells]∧OA az c y1 u1 x.cells:=by
 obtain ⟨b',y1,u1,e1,e2,h0⟩:=R.row_Row.ob k x hx;rw [ht] at e1;cases e1;exact ⟨y1,u1,e2,h0⟩
theorem Rel.put_row_Row {c:Cx} {s s':Sto} {G:Gm} {F:List En} {k:Nat} {E':List En} {x':bh} (O:Own c (jl G 0 k E') F) (R:Rel c s G) (h:s.set_row_Row k x'=some s') (hY:jK c (c.t 0 k) E' x'):
  ∃G',Own c G' F∧Rel c s' G'∧G' 0 k=E'∧∀G0,dZ G0 G→G0 0 k= []→dZ G0 G':=by
 unfold Sto.set_row_Row at h;split at h
 ·rename_i hk
  cases h;refine ⟨_,O,⟨R.row_Row.set hk hY,R.grid_Grid.other (by decide),R.place_Pen.other (by decide),R.widen_Cluster.other (by decide),R.feed_Feeder.other (by decide),R.screen_Screen.other (by decide),R.fitline_breaker.other (by decide)⟩,cL _ _ _ _,fun G0 h1 h2 g' k' h3=>?_⟩;rw [eK (by rintro ⟨rfl,rfl⟩; exact h3 h2)];exact h1 g' k' h3
 ·cases h
theorem Rel.new_row_Row {c:Cx} {s:Sto} {G:Gm} {F E:List En} {x:bh} {b:Nat} (O:Own c G (E++F)) (R:Rel c s G) (hY:∀c',c.le c'→jK c' (some b) E x):
  ∃c' G',(c'.w=c.w∧c'.A=c.A)∧c.le c'∧c'.t 0 s.row_Row.length=some b∧Own c' G' F∧Rel c' (s.add_row_Row x) G'∧G' 0 s.row_Row.length=E∧G 0 s.row_Row.length= []∧dZ G G':=by
 have hE:=R.row_Row.no _ (aw _);have hne:E≠ []:=by
  obtain ⟨_,_,_,_,rfl,_⟩:=hY c (Cx.le.refl c);simp
 obtain ⟨c',hw,hle,ht,O'⟩:=Own.newObj (b:=b) O hE hne;have R':=R.mono hle;refine ⟨c',_,hw,hle,ht,O',⟨R'.row_Row.new (by rw [ht]; exact hY c' hle),R'.grid_Grid.other (by decide),R'.place_Pen.other (by decide),R'.widen_Cluster.other (by decide),R'.feed_Feeder.other (by decide),R'.screen_Screen.other (by decide),R'.fitline_breaker.other (by decide)⟩,cL _ _ _ _,hE,fun g' k' h3=>?_⟩;exact eK (by rintro ⟨rfl,rfl⟩; exact h3 hE)
theorem Rel.open_grid_Grid {c:Cx} {s:Sto} {G:Gm} {k b:Nat} {x:bS} (R:Rel c s G) (hx:s.grid_Grid[k]? = some x) (ht:c.t 1 k=some b):∃(y1:Value) (u1:List Value),G 1 k= [⟨.pointer (some ⟨b,0,none⟩),176,[y1],0⟩,es true (RP 0) y1 168 u1 x.rows]∧OA (RP 0) c y1 u1 x.rows:=by
 obtain ⟨b',y1,u1,e1,e2,h0⟩:=R.grid_Grid.ob k x hx;rw [ht] at e1;cases e1;exact ⟨y1,u1,e2,h0⟩
theorem Rel.put_grid_Grid {c:Cx} {s s':Sto} {G:Gm} {F:List En} {k:Nat} {E':List En} {x':bS} (O:Own c (jl G 1 k E') F) (R:Rel c s G) (h:s.set_grid_Grid k x'=some s') (hY:gH c (c.t 1 k) E' x'):
  ∃G',Own c G' F∧Rel c s' G'∧G' 1 k=E'∧∀G0,dZ G0 G→G0 1 k= []→dZ G0 G':=by
 unfold Sto.set_grid_Grid at h;split at h
 ·rename_i hk
  cases h;refine ⟨_,O,⟨R.row_Row.other (by decide),R.grid_Grid.set hk hY,R.place_Pen.other (by decide),R.widen_Cluster.other (by decide),R.feed_Feeder.other (by decide),R.screen_Screen.other (by decide),R.fitline_breaker.other (by decide)⟩,cL _ _ _ _,fun G0 h1 h2 g' k' h3=>?_⟩;rw [eK (by rintro ⟨rfl,rfl⟩; exact h3 h2)];exact h1 g' k' h3
 ·cases h
theorem Rel.new_grid_Grid {c:Cx} {s:Sto} {G:Gm} {F E:List En} {x:bS} {b:Nat} (O:Own c G (E++F)) (R:Rel c s G) (hY:∀c',c.le c'→gH c' (some b) E x):
  ∃c' G',(c'.w=c.w∧c'.A=c.A)∧c.le c'∧c'.t 1 s.grid_Grid.length=some b∧Own c' G' F∧Rel c' (s.add_grid_Grid x) G'∧G' 1 s.grid_Grid.length=E∧G 1 s.grid_Grid.length= []∧dZ G G':=by
 have hE:=R.grid_Grid.no _ (aw _);have hne:E≠ []:=by
  obtain ⟨_,_,_,_,rfl,_⟩:=hY c (Cx.le.refl c);simp
 obtain ⟨c',hw,hle,ht,O'⟩:=Own.newObj (b:=b) O hE hne;have R':=R.mono hle;refine ⟨c',_,hw,hle,ht,O',⟨R'.row_Row.other (by decide),R'.grid_Grid.new (by rw [ht]; exact hY c' hle),R'.place_Pen.other (by decide),R'.widen_Cluster.other (by decide),R'.feed_Feeder.other (by decide),R'.screen_Screen.other (by decide),R'.fitline_breaker.other (by decide)⟩,cL _ _ _ _,hE,fun g' k' h3=>?_⟩;exact eK (by rintro ⟨rfl,rfl⟩; exact h3 hE)
theorem Rel.open_place_Pen {c:Cx} {s:Sto} {G:Gm} {k b:Nat} {x:bj} (R:Rel c s G) (hx:s.place_Pen[k]? = some x) (ht:c.t 2 k=some b):∃(y1:Value),G 2 k= [⟨.pointer (some ⟨b,0,none⟩),126,[y1,.int .i64 x.At.Row,.int .i64 x.At.Col,.bool x.At.Pending,.bool x.Auto],0⟩]∧Pt 1 c y1 x.G:=by
 obtain ⟨b',y1,e1,e2,h0⟩:=R.place_Pen.ob k x hx;rw [ht] at e1;cases e1;exact ⟨y1,e2,h0⟩
theorem Rel.put_place_Pen {c:Cx} {s s':Sto} {G:Gm} {F:List En} {k:Nat} {E':List En} {x':bj} (O:Own c (jl G 2 k E') F) (R:Rel c s G) (h:s.set_place_Pen k x'=some s') (hY:gG c (c.t 2 k) E' x'):
  ∃G',Own c G' F∧Rel c s' G'∧G' 2 k=E'∧∀G0,dZ G0 G→G0 2 k= []→dZ G0 G':=by
 unfold Sto.set_place_Pen at h;split at h
 ·rename_i hk
  cases h;refine ⟨_,O,⟨R.row_Row.other (by decide),R.grid_Grid.other (by decide),R.place_Pen.set hk hY,R.widen_Cluster.other (by decide),R.feed_Feeder.other (by decide),R.screen_Screen.other (by decide),R.fitline_breaker.other (by decide)⟩,cL _ _ _ _,fun G0 h1 h2 g' k' h3=>?_⟩;rw [eK (by rintro ⟨rfl,rfl⟩; exact h3 h2)];exact h1 g' k' h3
 ·cases h
theorem Rel.new_place_Pen {c:Cx} {s:Sto} {G:Gm} {F E:List En} {x:bj} {b:Nat} (O:Own c G (E++F)) (R:Rel c s G) (hY:∀c',c.le c'→gG c' (some b) E x):
  ∃c' G',(c'.w=c.w∧c'.A=c.A)∧c.le c'∧c'.t 2 s.place_Pen.length=some b∧Own c' G' F∧Rel c' (s.add_place_Pen x) G'∧G' 2 s.place_Pen.length=E∧G 2 s.place_Pen.length= []∧dZ G G':=by
 have hE:=R.place_Pen.no _ (aw _);have hne:E≠ []:=by
  obtain ⟨_,_,_,rfl,_⟩:=hY c (Cx.le.refl c);simp
 obtain ⟨c',hw,hle,ht,O'⟩:=Own.newObj (b:=b) O hE hne;have R':=R.mono hle;refine ⟨c',_,hw,hle,ht,O',⟨R'.row_Row.other (by decide),R'.grid_Grid.other (by decide),R'.place_Pen.new (by rw [ht]; exact hY c' hle),R'.widen_Cluster.other (by decide),R'.feed_Feeder.other (by decide),R'.screen_Screen.other (by decide),R'.fitline_breaker.other (by decide)⟩,cL _ _ _ _,hE,fun g' k' h3=>?_⟩;exact eK (by rintro ⟨rfl,rfl⟩; exact h3 hE)
theorem Rel.open_widen_Cluster {c:Cx} {s:Sto} {G:Gm} {k b:Nat} {x:aY} (R:Rel c s G) (hx:s.widen_Cluster[k]? = some x) (ht:c.t 3 k=some b):G 3 k= [⟨.pointer (some ⟨b,0,none⟩),338,[.int .i64 x.at_.Row,.int .i64 x.at_.Col,.bool x.at_.Pending,.int .i64 x.wide,.int .i32 x.text.text.1,.int .i32 x.text.text.2.1,.int .i32 x.text.text.2.2.1,.int .i32 x.text.text.2.2.2.1,.int .i32 x.text.text.2.2.2.2.1,.int .i32 x.text.text.2.2.2.2.2.1,.int .i32 x.text.text.2.2.2.2.2.2.1,.int .i32 x.text.text.2.2.2.2.2.2.2.1,.int .i32 x.text.text.2.2.2.2.2.2.2.2.1,.int .i32 x.text.text.2.2.2.2.2.2.2.2.2.1,.int .i32 x.text.text.2.2.2.2.2.2.2.2.2.2.1,.int .i32 x.text.text.2.2.2.2.2.2.2.2.2.2.2.1,.int .i32 x.text.text.2.2.2.2.2.2.2.2.2.2.2.2.1,.int .i32 x.text.text.2.2.2.2.2.2.2.2.2.2.2.2.2.1,.int .i32 x.text.text.2.2.2.2.2.2.2.2.2.2.2.2.2.2.1,.int .i32 x.text.text.2.2.2.2.2.2.2.2.2.2.2.2.2.2.2,.int .i64 x.text.n,.bool x.gauge.some,.bool x.gauge.pict,.bool x.gauge.wide],0⟩]:=by
 obtain ⟨b',e1,e2⟩:=R.widen_Cluster.ob k x hx;rw [ht] at e1;cases e1;exact e2
theorem Rel.put_widen_Cluster {c:Cx} {s s':Sto} {G:Gm} {F:List En} {k:Nat} {E':List En} {x':aY} (O:Own c (jl G 3 k E') F) (R:Rel c s G) (h:s.set_widen_Cluster k x'=some s') (hY:dL c (c.t 3 k) E' x'):
  ∃G',Own c G' F∧Rel c s' G'∧G' 3 k=E'∧∀G0,dZ G0 G→G0 3 k= []→dZ G0 G':=by
 unfold Sto.set_widen_Cluster at h;split at h
 ·rename_i hk
  cases h;refine ⟨_,O,⟨R.row_Row.other (by decide),R.grid_Grid.other (by decide),R.place_Pen.other (by decide),R.widen_Cluster.set hk hY,R.feed_Feeder.other (by decide),R.screen_Screen.other (by decide),R.fitline_breaker.other (by decide)⟩,cL _ _ _ _,fun G0 h1 h2 g' k' h3=>?_⟩;rw [eK (by rintro ⟨rfl,rfl⟩; exact h3 h2)];exact h1 g' k' h3
 ·cases h
theorem Rel.new_widen_Cluster {c:Cx} {s:Sto} {G:Gm} {F E:List En} {x:aY} {b:Nat} (O:Own c G (E++F)) (R:Rel c s G) (hY:∀c',c.le c'→dL c' (some b) E x):
  ∃c' G',(c'.w=c.w∧c'.A=c.A)∧c.le c'∧c'.t 3 s.widen_Cluster.length=some b∧Own c' G' F∧Rel c' (s.add_widen_Cluster x) G'∧G' 3 s.widen_Cluster.length=E∧G 3 s.widen_Cluster.length= []∧dZ G G':=by
 have hE:=R.widen_Cluster.no _ (aw _);have hne:E≠ []:=by
  obtain ⟨_,_,rfl,_⟩:=hY c (Cx.le.refl c);simp
 obtain ⟨c',hw,hle,ht,O'⟩:=Own.newObj (b:=b) O hE hne;have R':=R.mono hle;refine ⟨c',_,hw,hle,ht,O',⟨R'.row_Row.other (by decide),R'.grid_Grid.other (by decide),R'.place_Pen.other (by decide),R'.widen_Cluster.new (by rw [ht]; exact hY c' hle),R'.feed_Feeder.other (by decide),R'.screen_Screen.other (by decide),R'.fitline_breaker.other (by decide)⟩,cL _ _ _ _,hE,fun g' k' h3=>?_⟩;exact eK (by rintro ⟨rfl,rfl⟩; exact h3 hE)
theorem Rel.open_feed_Feeder {c:Cx} {s:Sto} {G:Gm} {k b:Nat} {x:bC} (R:Rel c s G) (hx:s.feed_Feeder[k]? = some x) (ht:c.t 4 k=some b):∃(y1:Value) (y2:Value),G 4 k= [⟨.pointer (some ⟨b,0,none⟩),184,[y1,.int .i64 x.dec.held,.int .i64 x.dec.needs,.int .u8 x.dec.lo,.int .u8 x.dec.hi,.int .i64 x.dec.bits,.bool x.seg.some,.int .i64 x.seg.last,.int .i64 x.seg.pict,.int .i64 x.seg.conj,.bool x.seg.odd,y2],0⟩]∧Pt 2 c y1 x.pen∧Pt 3 c y2 x.open_:=by
 obtain ⟨b',y1,y2,e1,e2,h0,h1⟩:=R.feed_Feeder.ob k x hx;rw [ht] at e1;cases e1;exact ⟨y1,y2,e2,h0,h1⟩
theorem Rel.put_feed_Feeder {c:Cx} {s s':Sto} {G:Gm} {F:List En} {k:Nat} {E':List En} {x':bC} (O:Own c (jl G 4 k E') F) (R:Rel c s G) (h:s.set_feed_Feeder k x'=some s') (hY:eI c (c.t 4 k) E' x'):
  ∃G',Own c G' F∧Rel c s' G'∧G' 4 k=E'∧∀G0,dZ G0 G→G0 4 k= []→dZ G0 G':=by
 unfold Sto.set_feed_Feeder at h;split at h
 ·rename_i hk
  cases h;refine ⟨_,O,⟨R.row_Row.other (by decide),R.grid_Grid.other (by decide),R.place_Pen.other (by decide),R.widen_Cluster.other (by decide),R.feed_Feeder.set hk hY,R.screen_Screen.other (by decide),R.fitline_breaker.other (by decide)⟩,cL _ _ _ _,fun G0 h1 h2 g' k' h3=>?_⟩;rw [eK (by rintro ⟨rfl,rfl⟩; exact h3 h2)];exact h1 g' k' h3
 ·cases h
theorem Rel.new_feed_Feeder {c:Cx} {s:Sto} {G:Gm} {F E:List En} {x:bC} {b:Nat} (O:Own c G (E++F)) (R:Rel c s G) (hY:∀c',c.le c'→eI c' (some b) E x):
  ∃c' G',(c'.w=c.w∧c'.A=c.A)∧c.le c'∧c'.t 4 s.feed_Feeder.length=some b∧Own c' G' F∧Rel c' (s.add_feed_Feeder x) G'∧G' 4 s.feed_Feeder.length=E∧G 4 s.feed_Feeder.length= []∧dZ G G':=by
 have hE:=R.feed_Feeder.no _ (aw _);have hne:E≠ []:=by
  obtain ⟨_,_,_,_,rfl,_⟩:=hY c (Cx.le.refl c);simp
 obtain ⟨c',hw,hle,ht,O'⟩:=Own.newObj (b:=b) O hE hne;have R':=R.mono hle;refine ⟨c',_,hw,hle,ht,O',⟨R'.row_Row.other (by decide),R'.grid_Grid.other (by decide),R'.place_Pen.other (by decide),R'.widen_Cluster.other (by decide),R'.feed_Feeder.new (by rw [ht]; exact hY c' hle),R'.screen_Screen.other (by decide),R'.fitline_breaker.other (by decide)⟩,cL _ _ _ _,hE,fun g' k' h3=>?_⟩;exact eK (by rintro ⟨rfl,rfl⟩; exact h3 hE)
theorem Rel.open_screen_Screen {c:Cx} {s:Sto} {G:Gm} {k b:Nat} {x:ey} (R:Rel c s G) (hx:s.screen_Screen[k]? = some x) (ht:c.t 5 k=some b):∃(y1:Value) (y2:Value),G 5 k= [⟨.pointer (some ⟨b,0,none⟩),131,[y1,y2],0⟩]∧Pt 4 c y1 x.Feeder∧Pt 2 c y2 x.pen:=by
 obtain ⟨b',y1,y2,e1,e2,h0,h1⟩:=R.screen_Screen.ob k x hx;rw [ht] at e1;cases e1;exact ⟨y1,y2,e2,h0,h1⟩
theorem Rel.new_screen_Screen {c:Cx} {s:Sto} {G:Gm} {F E:List En} {x:ey} {b:Nat} (O:Own c G (E++F)) (R:Rel c s G) (hY:∀c',c.le c'→ew c' (some b) E x):
  ∃c' G',(c'.w=c.w∧c'.A=c.A)∧c.le c'∧c'.t 5 s.screen_Screen.length=some b∧Own c' G' F∧Rel c' (s.add_screen_Screen x) G'∧G' 5 s.screen_Screen.length=E∧G 5 s.screen_Screen.length= []∧dZ G G':=by
 have hE:=R.screen_Screen.no _ (aw _);have hne:E≠ []:=by
  obtain ⟨_,_,_,_,rfl,_⟩:=hY c (Cx.le.refl c);simp
 obtain ⟨c',hw,hle,ht,O'⟩:=Own.newObj (b:=b) O hE hne;have R':=R.mono hle;refine ⟨c',_,hw,hle,ht,O',⟨R'.row_Row.other (by decide),R'.grid_Grid.other (by decide),R'.place_Pen.other (by decide),R'.widen_Cluster.other (by decide),R'.feed_Feeder.other (by decide),R'.screen_Screen.new (by rw [ht]; exact hY c' hle),R'.fitline_breaker.other (by decide)⟩,cL _ _ _ _,hE,fun g' k' h3=>?_⟩;exact eK (by rintro ⟨rfl,rfl⟩; exact h3 hE)
theorem Rel.open_fitline_breaker {c:Cx} {s:Sto} {G:Gm} {k b:Nat} {x:bq} (R:Rel c s G) (hx:s.fitline_breaker[k]? = some x) (ht:c.t 6 k=some b):∃(y1:Value) (u1:List Value) (y3:Value) (u3:List Value),G 6 k= [⟨.pointer (some ⟨b,0,none⟩),196,[.int .i64 x.w,.int .i64 x.room,y1,y3],0⟩,es false (RL (RI .i32)) y1 32 u1 x.out,es false (RI .i32) y3 21 u3 x.line]∧OA (RL (RI .i32)) c y1 u1 x.out∧OA (RI .i32) c y3 u3 x.line:=by
 obtain ⟨b',y1,u1,y3,u3,e1,e2,h0,h1⟩:=R.fitline_breaker.ob k x hx;rw [ht] at e1;cases e1;exact ⟨y1,u1,y3,u3,e2,h0,h1⟩
theorem Rel.put_fitline_breaker {c:Cx} {s s':Sto} {G:Gm} {F:List En} {k:Nat} {E':List En} {x':bq} (O:Own c (jl G 6 k E') F) (R:Rel c s G) (h:s.set_fitline_breaker k x'=some s') (hY:dd c (c.t 6 k) E' x'):
  ∃G',Own c G' F∧Rel c s' G'∧G' 6 k=E'∧∀G0,dZ G0 G→G0 6 k= []→dZ G0 G':=by
 unfold Sto.set_fitline_breaker at h;split at h
 ·rename_i hk
  cases h;refine ⟨_,O,⟨R.row_Row.other (by decide),R.grid_Grid.other (by decide),R.place_Pen.other (by decide),R.widen_Cluster.other (by decide),R.feed_Feeder.other (by decide),R.screen_Screen.other (by decide),R.fitline_breaker.set hk hY⟩,cL _ _ _ _,fun G0 h1 h2 g' k' h3=>?_⟩;rw [eK (by rintro ⟨rfl,rfl⟩; exact h3 h2)];exact h1 g' k' h3
 ·cases h
theorem Rel.new_fitline_breaker {c:Cx} {s:Sto} {G:Gm} {F E:List En} {x:bq} {b:Nat} (O:Own c G (E++F)) (R:Rel c s G) (hY:∀c',c.le c'→dd c' (some b) E x):
  ∃c' G',(c'.w=c.w∧c'.A=c.A)∧c.le c'∧c'.t 6 s.fitline_breaker.length=some b∧Own c' G' F∧Rel c' (s.add_fitline_breaker x) G'∧G' 6 s.fitline_breaker.length=E∧G 6 s.fitline_breaker.length= []∧dZ G G':=by
 have hE:=R.fitline_breaker.no _ (aw _);have hne:E≠ []:=by
  obtain ⟨_,_,_,_,_,_,rfl,_⟩:=hY c (Cx.le.refl c);simp
 obtain ⟨c',hw,hle,ht,O'⟩:=Own.newObj (b:=b) O hE hne;have R':=R.mono hle;refine ⟨c',_,hw,hle,ht,O',⟨R'.row_Row.other (by decide),R'.grid_Grid.other (by decide),R'.place_Pen.other (by decide),R'.widen_Cluster.other (by decide),R'.feed_Feeder.other (by decide),R'.screen_Screen.other (by decide),R'.fitline_breaker.new (by rw [ht]; exact hY c' hle)⟩,cL _ _ _ _,hE,fun g' k' h3=>?_⟩;exact eK (by rintro ⟨rfl,rfl⟩; exact h3 hE)
def Gl (n:List Nat) (c:Cx):Prop:=(∀g,g∈n→∃v,RE 350 144 c v (.sent g))∧∀g g',g∈n→g'∈n→g≠g'→∀a,Im c g 0 (.iface 350 (.pointer (some a)))→Im c g' 0 (.iface 350 (.pointer (some a)))→False
theorem Gl.lw {n:List Nat} {c c':Cx} (h:Gl n c) (k:c.lw c'):Gl n c':=by
 have key:∀g,g∈n→∀u,Im c' g 0 u→Im c g 0 u:=fun g hg u hu=>by
  obtain ⟨v,hv⟩:=h.1 g hg;have h1:=hv.im;have h2:=h1.lw k;have h3:=h2.cell.symm.trans hu.cell;cases h3;exact h1
 exact ⟨fun g hg=>(h.1 g hg).imp fun v hv=>hv.lw k,fun g g' hg hg' hne a h1 h2=>h.2 g g' hg hg' hne a (key g hg _ h1) (key g' hg' _ h2)⟩
theorem Gl.mono {n:List Nat} {c c':Cx} (h:Gl n c) (k:c.le c'):Gl n c':=h.lw k.lw
theorem Gl.m {n:List Nat} {c c':Cx} (h:Gl n c) (k:c.le c':=by repeat (first | assumption | refine Cx.le.trans ?_ (by assumption))):Gl n c':=h.mono k
theorem Gl.le {n m:List Nat} {c:Cx} (h:Gl n c) (k:∀g∈m,g∈n):Gl m c:=⟨fun g hg=>h.1 g (k g hg),fun g g' hg hg'=>h.2 g g' (k g hg) (k g' hg')⟩
theorem Gl.get {n:List Nat} {c:Cx} (h:Gl n c) (g:Nat) (hg:g∈n):∃v,RE 350 144 c v (.sent g):=h.1 g hg
end Go.Proofs.YtclmdpamofdoiaaGreatDoor
namespace Go.Proofs.YtclmdpamofdoiaaGreatDoor
open Go Go.Lt
set_option maxRecDepth 10000
set_option linter.unusedVariables false
attribute [local irreducible] W WL AC
def eN (p0:List Int):Option (List Int):=app [] p0
abbrev tw:= @Tryz.underlying119
abbrev eJ:= @Tryz.underlying124
abbrev Ak:= @Tryz.underlying128
abbrev xN:= @Tryz.underlying161
abbrev Aj:= @Tryz.underlying168
abbrev mi:= @Tryz.underlying174
abbrev mE:= @Tryz.underlying191
abbrev mf:= @Tryz.underlying21
abbrev nt:= @Tryz.underlying25
abbrev A0:= @Tryz.underlying27
abbrev Ai:= @Tryz.underlying289
abbrev u_3:= @Tryz.underlying3
abbrev cS:= @Tryz.underlying32
abbrev iv:= @Tryz.underlying323
abbrev tv:= @Tryz.underlying327
abbrev tM:= @Tryz.underlying33
abbrev wb:= @Tryz.underlying333
abbrev vZ:= @Tryz.underlying335
abbrev u_4:= @Tryz.underlying4
abbrev eH:= @Tryz.underlying46
abbrev u_5:= @Tryz.underlying5
abbrev xM:= @Tryz.underlying66
abbrev Cc:= @Tryz.underlying89
abbrev u_9:= @Tryz.underlying9
theorem vm {c0:Cx} {G:Gm} {F:List En} {v1:Value} (O0:Own c0 G F) (p0:List Int) (h1:Sl (RI .i32) c0 v1 p0) {r:List Int} (H:eN p0=some r):
  Calls Tryz.prog 96 #[v1] c0.w (aT c0 fun c v=>∃y1:Value,∃y2:List Value,Own c G (es true (RI .i32) y1 21 y2 r :: F)∧v=y1∧OA (RI .i32) c y1 y2 r):=by
 unfold eN at H
 have hS:=h1
 obtain ⟨a,cap,rfl,h2,h3,h4⟩:=h1
 refine enter (l:=[.slice a p0.length cap]) Tryz.func96 rfl rfl rfl ?_
 refine W.seq ?_
 refine W.region ?_
 refine WL.val0 (v:= .slice none 0 0) rfl (by kernel_rfl) ?_
 refine WL.nil ?_
 refine nrm ?_
 cases a with
 | none=>
  obtain rfl:p0= []:=by
   cases p0 with
   | nil=>rfl
   | cons x t=>
    obtain ⟨b,off,l,e,_⟩:=h4 0 x rfl
    cases e
  obtain rfl:r= []:=by simpa [app] using H.symm
  refine W.seq ?_
  refine W.seq ?_
  refine W.region ?_
  refine WL.val0 (v:= .slice none 0 cap) rfl (by kernel_rfl) ?_
  refine WL.val0 (v:= .bool true) rfl (by kernel_rfl) ?_
  refine WL.nil ?_
  refine nrm ?_
  refine W.cond (t:=true) (by kernel_rfl) (fun _=>?_) (fun h=>by cases h)
  refine W.seq ?_
  refine W.region ?_
  refine WL.val0 (v:= .slice none 0 0) rfl (by kernel_rfl) ?_
  refine WL.nil ?_
  refine nrm ?_
  refine W.ret ?_
  refine thr ?_
  have O1:=O0.addHole (e:=es true (RI .i32) (.slice none 0 0) 21 [] ([]:List Int)) rfl
  exact CD (v:= .slice none 0 0) rfl (by kernel_rfl) ⟨_,c0,rfl,rfl,Cx.le.refl _,_,_,O1,rfl,OA.nil (aX _)⟩
 | some ad=>
  refine W.seq ?_
  refine W.seq ?_
  refine W.region ?_
  refine WL.val0 (v:= .slice (some ad) p0.length cap) rfl (by kernel_rfl) ?_
  refine WL.val0 (v:= .bool false) rfl (by kernel_rfl) ?_
  refine WL.nil ?_
  refine nrm ?_
  refine W.cond (t:=false) (by kernel_rfl) (fun h=>by cases h) (fun _=>?_)
  refine W.skip ?_
  refine nrm ?_
  refine W.seq ?_
  refine W.region ?_
  refine WL.mem rfl (Own.sl (R:=RI .i32) (E:=21) (ls:=[]) (vs:=[]) (xs:=([]:List Int)) true O0 (aX _) rfl trivial (by kernel_rfl) (by kernel_rfl)) ?_
  rintro v5 c1 l1 ⟨u1,O1,a1⟩
  refine WL.val0 (v:= .slice (some ad) p0.length cap) rfl (by kernel_rfl) ?_
  refine WL.mem rfl (Own.app (R:=RI .i32) (z:= .int .i32 0) (by_:=4) (ty:=32) 0 O1 rfl a1 (hS.mono l1) H Tryz.underlying32 (by kernel_rfl) rfl (by kernel_rfl) (by kernel_rfl)) ?_
  rintro v6 c2 l2 ⟨u2,O2,a2⟩
  refine WL.val0 (v:=v6) rfl (by kernel_rfl) ?_
  refine WL.nil ?_
  refine nrm ?_
  refine W.ret ?_
  exact CD (v:=v6) rfl (by kernel_rfl) ⟨_,c2,rfl,rfl,l1.trans l2,_,_,O2,rfl,a2⟩
def qe (p0:Int) (p1:Er):Option Er:=some (.fault p0 p1)
theorem tJ {c0:Cx} {G:Gm} {F:List En} {v2:Value} (O0:Own c0 G F) (p0:Int) (p1:Er) (h1:RE 350 144 c0 v2 p1) {r:Er} (H:qe p0 p1=some r): Calls Tryz.prog 81 #[.int .i64 p0,v2] c0.w (aT c0 fun c v=>∃y1:Value,Own c G F∧v=y1∧RE 350 144 c y1 r):=by
 obtain rfl:=bb H;refine enter (l:=[.int .i64 p0,v2]) Tryz.func81 rfl rfl rfl ?_;refine W.seq ?_;refine W.region ?_;refine WL.val0 (v:= .nilIface) rfl (by kernel_rfl) ?_;refine WL.nil ?_;refine nrm ?_;refine W.seq ?_;refine W.region ?_;refine WL.val0 (v:= .int .i64 p0) rfl (by kernel_rfl) ?_;refine WL.val0 (v:=v2) rfl (by kernel_rfl) ?_;refine WL.val0 (v:= .agg #[.int .i64 p0,v2]) rfl (by rcases h1.cs3 with rfl | ⟨t,a,rfl⟩ <;> kernel_rfl) ?_;refine WL.mem rfl (Own.bx (T:=148) (vs:=[.int .i64 p0,v2]) O0 (by kernel_rfl)) ?_;rintro v5 c1 l1 ⟨b,rfl,O1,hm⟩;refine WL.val0 (v:= .iface 144 (.pointer (some ⟨b,0,none⟩))) rfl (by kernel_rfl) ?_;refine WL.val0 (v:= .iface 144 (.pointer (some ⟨b,0,none⟩))) rfl (by kernel_rfl) ?_;refine WL.nil ?_;refine nrm ?_;refine W.ret ?_;exact CD (v:= .iface 144 (.pointer (some ⟨b,0,none⟩))) rfl (by kernel_rfl) ⟨_,c1,rfl,rfl,l1,_,O1,rfl,_,_,rfl,hm 0 _ rfl,hm 1 _ rfl,h1.mono l1⟩
theorem oX {c0:Cx} {G:Gm} {F:List En} {e0:En} {b j n:Nat} {p0:List Int} (O0:Own c0 G (e0 :: F)) (hb:blk e0.v=some b) (hn:p0.length=n) (hv:∀m u,(p0.map (.int .i32))[m]? = some u→e0.vs[j+m]? = some u) {r:List Int} (H:eN p0=some r):
  Calls Tryz.prog 96 #[.slice (some ⟨b,j,none⟩) n 16] c0.w (aT c0 fun c v=>∃y1:Value,∃y2:List Value,Own c G (es true (RI .i32) y1 21 y2 r :: e0 :: F)∧v=y1∧OA (RI .i32) c y1 y2 r):=by
 unfold eN at H
 subst hn
 refine enter (l:=[.slice (some ⟨b,j,none⟩) p0.length 16]) Tryz.func96 rfl rfl rfl ?_
 refine W.seq ?_
 refine W.region ?_
 refine WL.val0 (v:= .slice none 0 0) rfl (by kernel_rfl) ?_
 refine WL.nil ?_
 refine nrm ?_
 refine W.seq ?_
 refine W.seq ?_
 refine W.region ?_
 refine WL.val0 (v:= .slice (some ⟨b,j,none⟩) p0.length 16) rfl (by kernel_rfl) ?_
 refine WL.val0 (v:= .bool false) rfl (by kernel_rfl) ?_
 refine WL.nil ?_
 refine nrm ?_
 refine W.cond (t:=false) (by kernel_rfl) (fun h=>by cases h) (fun _=>?_)
 refine W.skip ?_
 refine nrm ?_
 refine W.seq ?_
 refine W.region ?_
 refine WL.mem rfl (Own.sl (R:=RI .i32) (E:=21) (ls:=[]) (vs:=[]) (xs:=([]:List Int)) true O0 (aX _) rfl trivial (by kernel_rfl) (by kernel_rfl)) ?_
 rintro v5 c1 l1 ⟨u1,O1,a1⟩
 refine WL.val0 (v:= .slice (some ⟨b,j,none⟩) p0.length 16) rfl (by kernel_rfl) ?_
 have hon:=O1.on 1 rfl
 refine WL.mem rfl (Own.appSrc (R:=RI .i32) (nw:=p0.map (.int .i32)) (ua:=some ⟨b,j,none⟩) (ucap:=16) (z:= .int .i32 0) (by_:=4) (ty:=32) 0 O1 rfl a1 (by rw [bZ]; exact (Is _).symm) (fun _=>⟨b,j,rfl,fun m u hu=>(hon.cell hb (j+m)).trans (hv m u hu)⟩) (fun w hw=>by
  obtain ⟨x,_,rfl⟩:=List.mem_map.1 hw
  rfl) (fun i x hx=>by
  show ((p0.map (Value.int .i32)).drop (i * 1)).take 1= [.int .i32 x]
  have hlt:=(List.getElem?_eq_some_iff.1 hx).1
  have he:=(List.getElem?_eq_some_iff.1 hx).2
  rw [Is,qR (by rw [bZ]; exact hlt),Iz,eU,dM,he]) H Tryz.underlying32 (by kernel_rfl) rfl (by kernel_rfl) (by kernel_rfl)) ?_
 rintro v6 c2 l2 ⟨u2,O2,a2⟩
 refine WL.val0 (v:=v6) rfl (by kernel_rfl) ?_
 refine WL.nil ?_
 refine nrm ?_
 refine W.ret ?_
 exact CD (v:=v6) rfl (by kernel_rfl) ⟨_,c2,rfl,rfl,l1.trans l2,_,_,O2,rfl,a2⟩
end Go.Proofs.YtclmdpamofdoiaaGreatDoor
namespace Go.Lt
set_option linter.unusedVariables false
def isC:Obj→Bool
  | .cells _ _ _=>true
  | _=>false
section
variable {P:Program} {n:Nat} {df:List Deferred} {Q:List Deferred→Exit→(Nat→Value)→World→Prop} {e:Nat→Value} {w:World} {a b:Code}
def WR (P:Program) (n:Nat) (c:Code) (Q:List Deferred→Exit→(Nat→Value)→World→Prop) (df:List Deferred) (e:Nat→Value) (w:World):Prop:=
  c.wpIn (fen none) 0 P (fun x a w=>Hv x∧∃e d,a=act ⟨n,d,none⟩ e∧Q d x e w) (act ⟨n,df,none⟩ e) w
theorem WR.of (h:W P ⟨n,df,none⟩ a (Q df) e w):WR P n a Q df e w:=mc h fun x a w ⟨ht,e,ha,hq⟩=>⟨ht,e,df,ha,hq⟩
theorem WR.seq (h:WR P n a (fun d=>pR (fun e w=>WR P n b Q d e w) (Q d)) df e w):WR P n (a.seq b) Q df e w:=
  wpIn_seq (mc h fun x a' w' ⟨ht,e',d,ha,hQ⟩=>by
    subst ha
    cases x with
    | normal=>exact hQ
    | _=>exact ⟨ht,e',d,rfl,hQ⟩)
theorem WR.block {id:Nat} (h:WR P n a (fun d=>lX id (Q d)) df e w):WR P n (.block id a) Q df e w:=
  wpIn_block (mc h fun x a' w' ⟨ht,e',d,ha,hQ⟩=>by
    subst ha
    cases x with
    | exit i=>
      simp only [Exit.inBlock];by_cases hi:i=id
      · subst hi
        rw [ae rfl];exact ⟨trivial,e',d,rfl,by simpa [lX] using hQ⟩
      · rw [ab hi]
        have:Nat.beq i id=false:=by
          cases hb:Nat.beq i id with
          | false=>rfl
          | true=>exact absurd (nC hb) hi
        exact ⟨trivial,e',d,rfl,by simpa [lX,this] using hQ⟩
    | _=>exact ⟨ht,e',d,rfl,hQ⟩)
def FN (P:Program) (fn:Func) (n:Nat) (R:Ending→World→Prop) (df:List Deferred):Exit→(Nat→Value)→World→Prop
  | .normal,e,w=>LeavesInM (fen none) 0 P fn (act ⟨n,[],none⟩ e).tmps R df .returning w
  | .ret,e,w=>LeavesInM (fen none) 0 P fn (act ⟨n,[],none⟩ e).tmps R df .returning w
  | _,_,_=>False
theorem enR {f:FuncId} {fn:Func} {code:Code} {l:List Value} {R:Ending→World→Prop} (hf:P.funcs[f]? = some fn) (hb:fn.body=some code) (hn:fn.ntmps=n)
    (h:WR P n code (FN P fn n R) [] (ar l) w) (hl:Nat.ble l.length n=true:=by rfl):Calls P f l.toArray w R:=by
  subst hn;have hl:=bp hl;refine (G7 (n:=0)).1 (callsIn_of_wp_marks hf hb trivial ?_);rw [rh,←DR _ l hl];refine mc h ?_;rintro x a w' ⟨_,e',d,rfl,hq⟩
  cases x <;> first | exact hq | exact hq.elim
def mark (D:Nat):Deferred:={ target:= .collected D,args:= #[]}
theorem GF {fn:Func} {tm:Array Value} {R:Ending→World→Prop} {D:Nat} {v:Value} (hD:w.heap[D]? = some (.deferred (some [])))
    (hr:(results fn tm).run P (w.putObj D (.deferred none))= .ok v (w.putObj D (.deferred none))) (hR:R (.returned v) (w.putObj D (.deferred none))):LeavesInM (fen none) 0 P fn tm R [mark D] .returning w:=
  ⟨by simp,.inl ⟨D,_,rfl,run_takeDeferred hD,v,hr,hR⟩⟩
def Et (fn:FuncId) (tm:Array Value) (ps:Array Tmp) (assign body:Code) (D:Nat) (st:LoopState) (pe:Option Code):Loop:={ state:=st,pending:=pe,fn,tmps:=tm,params:=ps,assign,body,defers:=D}
theorem WR.range {g:Operand} {ps:Array Tmp} {assign body:Code} {gf:Nat} {lb:Array Value} (hg:ev n e g= .func (.func gf) #[] lb) (eg:∀args w,(callFunc gf args).run P w= .ok (.enter gf args) w)
    (h:∀(fn:FuncId) (rc:LoopState→Option Code→Loop),rc=Et fn (act ⟨n,df,none⟩ e).tmps ps assign body w.heap.size→Calls P gf (#[.func (.yield (w.heap.size+1)) #[] #[]]++lb) ((w.alloc (.deferred (some []))).alloc (.loop (rc .ready none)))
      fun x w3=>∃v,x= .returned v∧
        ((w3.heap[w.heap.size+1]? = some (.loop (rc .ready none))∧Q (mark w.heap.size :: df) .normal e (w3.putObj (w.heap.size+1) (.loop (rc .exhausted none))))∨
         ∃c,w3.heap[w.heap.size+1]? = some (.loop (rc .done (some c)))∧WR P n c Q (mark w.heap.size :: df) e (w3.putObj (w.heap.size+1) (.loop (rc .exhausted (some c)))))):
    WR P n (.rangeFunc g ps assign body) Q df e w:=by
  refine wpIn_rangeFunc (fun fn _=>?_);have hg':(act ⟨n,df,none⟩ e).eval g= .func (.func gf) #[] lb:=by rw [lZ]; exact hg
  have h:=h fn _ rfl;have h1:=run_enterLoop_outer (P:=P) (w:=w) fn (act ⟨n,df,none⟩ e).tmps ps assign body;have h2:∀W:World,(resolve (act ⟨n,df,none⟩ e).eval (rangeCall g (w.heap.size+1)) 0).run P W= .ok { target:= .fn (.func gf) lb,args:= #[.func (.yield (w.heap.size+1)) #[] #[]]} W:=fun W=>by
    simp only [resolve,hg'];simp [go_sem]
  have h3:∀W:World,(invoke (.fn (.func gf) lb) #[.func (.yield (w.heap.size+1)) #[] #[]]).run P W= .ok (.enter gf (#[.func (.yield (w.heap.size+1)) #[] #[]]++lb)) W:=fun W=>by
    simp [invoke,go_sem,eg]
  refine Exists.intro (w.heap.size+1) (Exists.intro [mark w.heap.size] (Exists.intro _ (Exists.intro { target:= .fn (.func gf) lb,args:= #[.func (.yield (w.heap.size+1)) #[] #[]]} (Exists.intro _ (Exists.intro gf (Exists.intro (#[.func (.yield (w.heap.size+1)) #[] #[]]++lb) (Exists.intro _ ⟨h1,h2 _,fun _ _=>trivial,h3 _,fun hd=>(by cases hd),?_⟩)))))));refine tF (h.mono fun x w3 hx=>?_);obtain ⟨v,rfl,hv⟩:=hx;rcases hv with ⟨k1,k2⟩ | ⟨c,k1,k2⟩
  · exact ⟨none,_,run_endLoop k1 (by simp [Et]),trivial,e,mark w.heap.size :: df,rfl,k2⟩
  · exact ⟨some c,_,run_endLoop k1 (by simp [Et]),k2⟩
end
theorem WL.round {P:Program} {ops:Array Oper} {n:Fr} {Q:Exit→(Nat→Value)→World→Prop} {rest:List Oper} {e:Nat→Value} {o:Oper} {w:World} {l:Nat} {args:Array Value} (hg:o.guard=none)
    (hr:(execOp (ev n e) o).run P w=(Instr.yield l args).run P w) (hy:YieldAt (fen n.ro) 0 P l args w fun x w'=>∃v,x= .returned v∧WL P ops n Q rest (upO e o.dst v) w'):WL P ops n Q (o :: rest) e w:=by
  obtain ⟨fn,tm,assign,body,hy1,hR⟩:=hy;refine uu hg fun K hK=>⟨fun _ _=>trivial,?_⟩;rw [lZ,pV (hr.trans hy1) (by simp),Oper.uponIn_round];refine ⟨fun h=>(by cases h),hR.mono ?_⟩;rintro x w' ⟨v,rfl,h⟩;simp only [oT];exact hK _ _ h
theorem ym {F:Fence} {m:Nat} {P:Program} {l:Nat} {args:Array Value} {w:World} {R R':Ending→World→Prop} (h:YieldAt F m P l args w R) (hr:∀x w',R x w'→R' x w'):YieldAt F m P l args w R':=by
  obtain ⟨fn,tm,assign,body,hy,hR⟩:=h;exact ⟨fn,tm,assign,body,hy,hR.mono hr⟩
def rdQ (l:Nat) (r:LoopState→Option Code→Loop) (R:Ending→World→Prop):Exit→(Nat→Value)→World→Prop
  | .normal,_,w=>w.heap[l]? = some (.loop (r .busy none))∧R (.returned (.bool true)) (w.putObj l (.loop (r .ready none)))
  | .ret,_,w=>w.heap[l]? = some (.loop (r .busy none))∧R (.returned (.bool false)) (w.putObj l (.loop (r .done (some .ret))))
  | .exit i,_,w=>w.heap[l]? = some (.loop (r .busy none))∧R (.returned (.bool false)) (w.putObj l (.loop (r .done (some (.exit i)))))
  | _,_,_=>False
theorem Cn (n:Fr) (e:Nat→Value) (d:Nat) (v:Value):(act n e).tmps.setIfInBounds d v=(act n (up e d v)).tmps:=mN Act.tmps (oT n e (some d) v)
theorem FM (n:Nat) (df:List Deferred) (r0:Option Nat) (l:Nat) (e:Nat→Value) (p1 p2:Nat) (a1 a2:Value):
    ((#[p1,p2]:Array Tmp).zip #[a1,a2]).foldl (fun t (p,v)=>t.setIfInBounds p v) (act ⟨n,df,r0⟩ e).tmps=(act ⟨n,[],some l⟩ (up (up e p1 a1) p2 a2)).tmps:=by
  have hz:((#[p1,p2]:Array Tmp).zip #[a1,a2])= #[(p1,a1),(p2,a2)]:=by simp
  rw [hz,←Array.foldl_toList];show ((act ⟨n,df,r0⟩ e).tmps.setIfInBounds p1 a1).setIfInBounds p2 a2=_;rw [Cn,Cn];rfl
theorem xI {P:Program} {n:Nat} {r0:Option Nat} {w:World} {l:Nat} {fn:FuncId} {tm:Array Value} {ps:Array Tmp} {assign body:Code} {D:Nat} {rc:LoopState→Option Code→Loop} (hrc:rc=Et fn tm ps assign body D) {args:Array Value} {R:Ending→World→Prop} {e1:Nat→Value}
    (hl:w.heap[l]? = some (.loop (rc .ready none))) (hs:args.size=ps.size) (he:(ps.zip args).foldl (fun t (p,v)=>t.setIfInBounds p v) tm=(act ⟨n,[],some l⟩ e1).tmps)
    (h:W P ⟨n,[],some l⟩ assign (pR (fun e2 w1=>w1.heap[l]? = some (.loop (rc .ready none))∧
      W P ⟨n,[],some l⟩ body (rdQ l rc R) e2 (w1.putObj l (.loop (rc .busy none)))) (fun _ _ _=>False)) e1 w):YieldAt (fen r0) 0 P l args w R:=by
  subst hrc;refine ⟨fn,_,assign,body,run_yield hl hs,roundIn_of_wpIn trivial ?_⟩;have hz:(fen r0).inRound l=fen (some l):=rfl;rw [hz];have ha:({ tmps:=(ps.zip args).foldl (fun t (p,v)=>t.setIfInBounds p v) tm,defers:=[]}:Act)=act ⟨n,[],some l⟩ e1:=by rw [he]; rfl
  show assign.wpIn (fen (some l)) 0 P _ ({ tmps:=(ps.zip args).foldl (fun t (p,v)=>t.setIfInBounds p v) tm,defers:=[]}:Act) w;rw [ha];refine mc h ?_;rintro x a w1 ⟨ht,e2,rfl,hq⟩
  cases x with
  | normal=>
    obtain ⟨h1,h2⟩:=hq;refine ⟨_,run_beginRound h1 rfl,mc h2 ?_⟩;rintro y a' w2 ⟨_,e3,rfl,hy⟩
    cases y with
    | normal=>exact ⟨_,_,run_endRound none hy.1,hy.2⟩
    | ret=>exact ⟨_,_,run_endRound (some .ret) hy.1,hy.2⟩
    | exit i=>exact ⟨_,_,run_endRound (some (.exit i)) hy.1,hy.2⟩
    | _=>exact hy.elim
  | _=>exact hq.elim
structure Rec (c:Cx) (l D:Nat) (r:Loop):Prop where
  rc:c.w.heap[l]? = some (.loop r)
  nl:∀o,¬c.A l o
  def_:c.w.heap[D]? = some (.deferred (some []))
  nD:∀o,¬c.A D o
theorem Rec.mono {c c':Cx} {l D:Nat} {r:Loop} (h:Rec c l D r) (k:c.le c'):Rec c' l D r:=by
  have hl:=(Array.getElem?_eq_some_iff.1 h.rc).1;have hD:=(Array.getElem?_eq_some_iff.1 h.def_).1;exact ⟨(k.block l hl h.nl).trans h.rc,fun o=>(k.cell l o hl (h.nl o)).2,(k.block D hD h.nD).trans h.def_,fun o=>(k.cell D o hD (h.nD o)).2⟩
def Cx.turn (c:Cx) (l:Nat) (o:Obj):Cx:=⟨c.w.putObj l o,c.A,c.t⟩
theorem Cx.turn_lw {c:Cx} {l:Nat} {o o':Obj} (h:c.w.heap[l]? = some o) (ho:isC o=false) (ho':isC o'=false):c.lw (c.turn l o'):=by
  have hlt:=(Array.getElem?_eq_some_iff.1 h).1;have same:∀k,k≠l→(c.w.putObj l o').heap[k]? = c.w.heap[k]? :=fun k hk=>World.putObj_heap_other hk;have at_l:(c.w.putObj l o').heap[l]? = some o':=World.putObj_heap_same hlt;refine ⟨rfl,rfl,by simp [Cx.turn,World.putObj],fun k q hk hA=>⟨?_,hA⟩,fun k vs T f hk _=>?_,fun a _ _=>?_,fun _ _ _ h=>h⟩
  · show (c.w.putObj l o').cell? _=_
    by_cases e:k=l
    · subst e
      unfold World.cell?;rw [at_l,h]
      cases o <;> cases o' <;> first | rfl | (simp [isC] at ho ho')
    · exact ma (w:=c.w) (a:=⟨k,q,none⟩) (same k e)
  · refine same k fun e=>?_
    subst e;rw [h] at hk;cases hk;simp [isC] at ho
  · show (c.w.putObj l o').frozen? a=_
    by_cases e:a.block=l
    · unfold World.frozen?
      rw [e,at_l,h]
      cases o <;> cases o' <;> first | rfl | (simp [isC] at ho ho')
    · unfold World.frozen?
      rw [same _ e]
theorem Own.turn {c:Cx} {G:Gm} {F:List En} {l:Nat} {o o':Obj} (O:Own c G F) (h:c.w.heap[l]? = some o) (ho:isC o=false):Own (c.turn l o') G F:=
  ⟨⟨fun i e he b hb=>by
    have h1:=O.m.1 i e he b hb;refine ⟨?_,h1.2⟩;have hne:b≠l:=fun e2=>by
      subst e2;rw [h] at h1;have:=h1.1;cases this;simp [isC] at ho
    exact (World.putObj_heap_other hne).trans h1.1,O.m.2⟩,O.t0⟩
theorem Own.front {c:Cx} {G:Gm} {Fm F:List En} {e:En} (O:Own c G (Fm++e :: F)):Own c G (e :: (Fm++F)):=
  ⟨nP.re O.m (fun k=>match k with | .inl 0=> .inl Fm.length | .inl (k+1)=>if k < Fm.length then .inl k else .inl (k+1) | .inr x=> .inr x) (fun k e' h=>by
    match k,h with
    | .inl 0,h=>simpa [at_] using h
    | .inl (k+1),h=>
      simp only [at_,iz] at h;by_cases hk:k < Fm.length
      · simp only [ae hk,at_]; rw [ax hk] at h⊢; exact h
      · simp only [ab hk,at_]
        rw [aI (by omega)] at h⊢;rw [show k+1 - Fm.length=(k - Fm.length)+1 by omega,iz]; exact h
    | .inr x,h=>exact h) (fun k k' e1 e2 h1 h2 he=>by
    match k,k' with
    | .inl 0,.inl 0=>rfl
    | .inl 0,.inl (j+1)=>simp only at he; split at he <;> (simp at he; try omega)
    | .inl (i+1),.inl 0=>simp only at he; split at he <;> (simp at he; try omega)
    | .inl (i+1),.inl (j+1)=>simp only at he; split at he <;> split at he <;> (simp at he; try omega) <;> (first | (subst he; rfl) | omega)
    | .inl 0,.inr x=>simp at he
    | .inr x,.inl 0=>simp at he
    | .inl (i+1),.inr x=>simp only at he; split at he <;> simp at he
    | .inr x,.inl (j+1)=>simp only at he; split at he <;> simp at he
    | .inr x,.inr y=>simpa using he),O.t0⟩
theorem Own.behind {c:Cx} {G:Gm} {Fm F:List En} {e:En} (O:Own c G (e :: (Fm++F))):Own c G (Fm++e :: F):=
  ⟨nP.re O.m (fun k=>match k with | .inl k=>if k < Fm.length then .inl (k+1) else if k=Fm.length then .inl 0 else .inl k | .inr x=> .inr x) (fun k e' h=>by
    match k,h with
    | .inl k,h=>
      simp only [at_] at h;by_cases hk:k < Fm.length
      · simp only [ae hk,at_,iz]; rw [ax hk] at h⊢; exact h
      · by_cases hk2:k=Fm.length
        · subst hk2; simpa [at_] using h
        · simp only [ab hk,ab hk2,at_]
          rw [aI (by omega)] at h;rw [show k - Fm.length=(k - 1 - Fm.length)+1 by omega,iz] at h;rw [show k=(k - 1)+1 by omega,iz,aI (by omega)];exact h
    | .inr x,h=>exact h) (fun k k' e1 e2 h1 h2 he=>by
    match k,k' with
    | .inl i,.inl j=>
      simp only at he;split at he <;> split at he <;> (try split at he) <;> (try split at he) <;> (simp at he; try omega) <;> (first | (subst he; rfl) | (congr 1; omega) | omega)
    | .inl i,.inr x=>simp only at he; split at he <;> (try split at he) <;> simp at he
    | .inr x,.inl j=>simp only at he; split at he <;> (try split at he) <;> simp at he
    | .inr x,.inr y=>simpa using he),O.t0⟩
def Bod {σ:Type} (J:σ→Cx→List En→Prop):Prop:=
  ∀s c F,J s c F→∃G Fm,Own c G (Fm++F)∧∀c' F',c.le c'→Own c' G (Fm++F')→J s c' F'
theorem Bod.new {σ:Type} {J:σ→Cx→List En→Prop} (hJ:Bod J) {s:σ} {c:Cx} {F:List En} (h:J s c F):∃G Fx,Own c G Fx∧∀c' e,c.le c'→Own c' G (e :: Fx)→J s c' (e :: F):=by
  obtain ⟨G,Fm,O,k⟩:=hJ s c F h;exact ⟨G,_,O,fun c' e hc O'=>k c' _ hc O'.behind⟩
theorem Bod.op {σ:Type} {J:σ→Cx→List En→Prop} (hJ:Bod J) {s:σ} {c:Cx} {F:List En} {e:En} (h:J s c (e :: F)):∃G Fx,Own c G (e :: Fx)∧∀c' e',c.le c'→Own c' G (e' :: Fx)→J s c' (e' :: F):=by
  obtain ⟨G,Fm,O,k⟩:=hJ s c _ h;exact ⟨G,_,O.front,fun c' e' hc O'=>k c' _ hc O'.behind⟩
theorem Bod.drop {σ:Type} {J:σ→Cx→List En→Prop} (hJ:Bod J) {s:σ} {c:Cx} {F:List En} {e:En} (h:J s c (e :: F)):J s c F:=by
  obtain ⟨G,Fm,O,k⟩:=hJ s c _ h;exact k c _ (Cx.le.refl c) O.front.tail
abbrev JnW (c0:Cx) (q:Cx→List (Nat×Value)→Prop):(Nat→Value)→World→Prop:=fun e w=>∃c e0 l,w=c.w∧c0.lw c∧e=ups e0 l∧q c l
theorem jnW {c0:Cx} {q:Cx→List (Nat×Value)→Prop} {e:Nat→Value} {l:List (Nat×Value)} (c:Cx) (h:q c l) (k:c0.lw c) (u:l.map (fun x=>e x.1)=l.map (fun x=>x.2):=by kernel_rfl):JnW c0 q e c.w:=⟨c,e,l,rfl,k,us u,h⟩
def IU {σ:Type} (P:Program) (l:Nat) (J:σ→Cx→List En→Prop) (args:Array Value) (c:Cx) (F:List En) (s':σ) (b:Bool):Prop:=
  YieldAt (fen none) 0 P l args c.w fun x w'=>∃c',w'=c'.w∧c.lw c'∧x= .returned (.bool b)∧J s' c' F
theorem xZ {α:Type} {R:Rp α} {c:Cx} {P:Program} {v:Value} {xs zs:List α} {T E:TypeId} {i j:Int} {k k' k2:IntKind} (hT:P.underlying T=some (.slice E)) (hE:(P.info? E).map (·.size)=some R.size) (h:Sl R c v xs) (hz:slc xs i j=some zs):
    ∃v',(∀w,(Instr.sliceAt T v (some (.int k i)) (some (.int k' j)) (some (.int k2 j))).run P w= .ok v' w)∧Sl R c v' zs:=by
  obtain ⟨h1,h2,h3,rfl⟩:=mZ hz;obtain ⟨ti,hti,hsz⟩:=Option.map_eq_some_iff.1 hE;have hh:=h;obtain ⟨a,cap,rfl,h4,h5,h6⟩:=h;have hcut:=Sl.cut (l:=i.toNat) (h:=j.toNat) (m:=j.toNat) hh (by omega) (by omega) (by omega) (by omega);rw [show (j - i).toNat=j.toNat - i.toNat by omega];refine ⟨_,fun w=>?_,hcut⟩;have e1:0≤i∧i≤j:=⟨h1,h2⟩;have e2:0≤j∧j≤(cap:Int):=⟨by omega,by omega⟩;have e4:0≤j∧j≤j:=⟨by omega,AZ _⟩;have e3:((j.toNat:Nat):Int)=j:=by omega
  simp [Instr.sliceAt,bH hT,Instr.slice,Instr.sliceBounds,Instr.sliceBound,asIntOf,e1,e2,e3,e4,sizeOf,typeInfo,hti,hsz]
theorem WR.sr {P:Program} {n:Nat} {df:List Deferred} {Q:List Deferred→Exit→(Nat→Value)→World→Prop} {e:Nat→Value} {w:World} {b:Code} {id:Nat} {l:List Oper}
    (h:WL P l.toArray ⟨n,df,none⟩ (pR (fun e w=>WR P n b Q df e w) (Q df)) l e w):WR P n ((Code.region id l.toArray false).seq b) Q df e w:=WR.seq (WR.of (W.region h))
theorem Cx.loop (c:Cx) (r:Loop):∃c':Cx,c'.w=(c.w.alloc (.deferred (some []))).alloc (.loop r)∧c.but (fun _=>False) c'∧Rec c' (c.w.heap.size+1) c.w.heap.size r:=by
  have hb:∀k,k < c.w.heap.size→((c.w.alloc (.deferred (some []))).alloc (.loop r)).heap[k]? = c.w.heap[k]? :=fun k hk=>
    (dY _ _ _ (by simp; omega)).trans (dY _ _ _ hk)
  refine ⟨⟨(c.w.alloc (.deferred (some []))).alloc (.loop r),fun k o=>k < c.w.heap.size∧c.A k o,c.t⟩,rfl,⟨⟨rfl,rfl,by simp; omega,fun k o hk hA=>⟨ma (w:=c.w) (a:=⟨k,o,none⟩) (hb k hk),fun h=>hA h.2⟩,fun k hk _=>hb k hk,fun a ha _=>?_,fun _ _ _ h=>h⟩,rfl,fun k hk _=>⟨hb k hk,fun o=>⟨fun h=>h.2,fun h=>⟨hk,h⟩⟩⟩⟩,?_,?_,?_,?_⟩
  · unfold World.frozen?
    rw [hb _ ha]
  · have:=World.alloc_heap_new (c.w.alloc (.deferred (some []))) (.loop r)
    rwa [World.size_alloc] at this
  · intro o h; omega
  · exact (dY _ _ _ (by simp)).trans (World.alloc_heap_new c.w _)
  · intro o h; omega
theorem Cx.le.turn {cb c:Cx} (h:cb.le c) {l:Nat} {o o':Obj} (hl:cb.w.heap.size≤l) (hc:c.w.heap[l]? = some o) (ho:isC o=false) (ho':isC o'=false):cb.le (c.turn l o'):=by
  have k:=h.lw.trans (Cx.turn_lw hc ho ho');refine ⟨k.os,k.output,k.size,k.cell,fun i hi hA=>?_,k.frz,k.t⟩;exact (World.putObj_heap_other (by omega)).trans (h.block i hi hA)
theorem Rec.turn {c:Cx} {l D:Nat} {r:Loop} (h:Rec c l D r) (r':Loop):Rec (c.turn l (.loop r')) l D r':=by
  have hlt:=(Array.getElem?_eq_some_iff.1 h.rc).1;have hne:D≠l:=fun e=>by
    have h1:=h.rc;rw [←e,h.def_] at h1;cases h1
  exact ⟨World.putObj_heap_same hlt,h.nl,(World.putObj_heap_other hne).trans h.def_,h.nD⟩
theorem FG {P:Program} {fn:Func} {n:Nat} {R:Ending→World→Prop} {c:Cx} {e:Nat→Value} {D t:Nat} {v:Value} (hD:c.w.heap[D]? = some (.deferred (some []))) (h:R (.returned v) (c.turn D (.deferred none)).w)
    (hr:fn.results= #[.tmp t]:=by rfl) (hv:ev n e (.tmp t)=v:=by kernel_rfl):FN P fn n R [mark D] .ret e c.w:=by
  refine GF hD (results_tmp hr _ _ _) ?_;rw [gI];show R (.returned (ev n e (.tmp t))) _;rw [hv];exact h
section
variable {P:Program} {α:Type} {R:Rp α} {c:Cx} {G:Gm} {F:List En}
theorem Aa {E t ty:TypeId} {v:Value} {vs:List Value} {xs ys zs:List α} {z:Value} {by_:Nat} {m:Bool} {ua:Option Addr} {ucap:Nat} {nw:List Value} (k:Nat) (O:Own c G F) (hk:F[k]? = some (es m R v E vs xs)) (h:OA R c v vs xs)
    (n1:nw.length=ys.length * R.size) (n2:ys≠ []→∃ub uo,ua=some ⟨ub,uo,none⟩∧∀j w,nw[j]? = some w→c.w.cell? ⟨ub,uo+j,none⟩=some w) (n3:∀w∈nw,w.oneCell'=true) (n4:∀i x,ys[i]? = some x→R.cells c ((nw.drop (i * R.size)).take R.size) x) (happ:app xs ys=some zs)
    (hT:P.underlying t=some (.slice E)) (hi:(P.info? E).map (fun i=>(i.zero,i.size,i.bytes))=some (some z,R.size,by_)) (hz:z.cells.size=R.size) (hby:Nat.ble by_ 128=true):
    ∃v' c',(Builtin.append_ #[t,t] ty #[v,.slice ua ys.length ucap]).run P c.w= .ok v' c'.w∧c.le c'∧(∃vs',Own c' G (F.set k (es m R v E vs' xs))∧OA R c' v vs' xs)∧∃a q,v'= .slice a zs.length q:=by
  have hby:=bp hby;have hfar:xs.length+ys.length≤far∧xs++ys=zs:=by
    unfold app at happ;split at happ
    · exact ⟨by assumption,by simpa using happ⟩
    · cases happ
  obtain ⟨hfar,rfl⟩:=hfar;unfold far at hfar;obtain ⟨ti,hti,hzz⟩:=Option.map_eq_some_iff.1 hi;simp only [fM] at hzz;obtain ⟨hz1,hz2,hz3⟩:=hzz;have hon:=O.on k hk;have hklt:=(List.getElem?_eq_some_iff.1 hk).1;have hh:=h;have hsame:F.set k (es m R v E vs xs)=F:=by
    apply bQ;intro j;by_cases hj:k=j
    · subst hj; rw [bi hklt,hk]
    · rw [aR hj]
  obtain ⟨hp,h1,h2⟩:=h;by_cases hys:ys= []
  · subst hys
    refine ⟨v,c,?_,Cx.le.refl c,⟨vs,by rw [hsame]; exact O,hh⟩,?_⟩
    · rcases h1 with ⟨rfl,rfl⟩ | ⟨g,cap,rfl,hcap,_⟩
      · cases ua <;> simp [Builtin.append_,bH hT,sizeOf,typeInfo,hti,Builtin.lenOf,Builtin.firstCells,loadCells,loadCellsFrom,storeCells]
      · cases ua <;> simp [Builtin.append_,bH hT,sizeOf,typeInfo,hti,Builtin.lenOf,Builtin.firstCells,loadCells,loadCellsFrom,storeCells,hcap]
    · rw [dI]
      rcases h1 with ⟨rfl,rfl⟩ | ⟨g,cap,rfl,hcap,_⟩ <;> exact ⟨_,_,rfl⟩
  · have hpos:0 < ys.length:=by
      rcases jh ys.length with h | h
      · exact absurd (cf h) hys
      · exact h
    obtain ⟨ub,uo,hua,n5⟩:=n2 hys;subst hua;have hcells:∀j w,nw[j]? = some w→c.w.cell? ((⟨ub,uo,none⟩:Addr).add j)=some w:=fun j w hw=>by
      rw [dj];exact n5 j w hw
    have hN:(xs++ys).length=xs.length+ys.length:=ai;have hxl:=h2.len hp;have helem:∀(c':Cx) (tail:List Value),c.le c'→AR R c' (vs.take (xs.length * R.size)++nw++tail) (xs++ys):=fun c' tail hcc i x hx=>by
      have hlt:(vs.take (xs.length * R.size)).length=xs.length * R.size:=by rw [ay]; omega
      rcases aP i xs.length with hi' | hi'
      · have hm:=iF (s:=R.size) hi'
        rw [aC,fN (by rw [hlt]; exact hm)];rw [ax hi'] at hx;have:=h2 i x hx;rw [fW,ji,show min R.size (xs.length * R.size - i * R.size)=R.size by omega];exact R.mono hcc this
      · rw [aI hi'] at hx
        have h4:=n4 _ _ hx;have hiy:=iF (s:=R.size) (List.getElem?_eq_some_iff.1 hx).1;have e:i * R.size=xs.length * R.size+(i - xs.length) * R.size:=by rw [←fi]; congr 1; omega
        have e2:(vs.take (xs.length * R.size)++(nw++tail)).drop (xs.length * R.size)=nw++tail:=by
          conv=>lhs; arg 1; rw [←hlt]
          exact jj
        rw [aC,e,←da,e2,fN (by rw [n1]; omega)];exact R.mono hcc h4
    have hbytes:(xs.length+ys.length) * ti.bytes≤140737488355328:=by
      rw [hz3];exact cx (Nat.mul_le_mul hfar hby) (by decide)
    have fresh:∀old,old < xs.length+ys.length→
        ∃v' c',Result.ok (α:=Value) (.slice (some ⟨c.w.heap.size,0,none⟩) (xs.length+ys.length) (grownCap c.w (xs.length+ys.length) old E)) (c.w.drew.alloc (.cells ((vs.take (xs.length * R.size)).toArray++nw.toArray++Builtin.zeroCells z.cells (grownCap c.w (xs.length+ys.length) old E - (xs.length+ys.length))) E))= .ok v' c'.w∧c.le c'∧
        (∃vs',Own c' G (F.set k (es m R v E vs' xs))∧OA R c' v vs' xs)∧∃a q,v'= .slice a (xs++ys).length q:=by
      intro old ho;have hge:=AK c.w (xs.length+ys.length) old E;have hcm:grownCap c.w (xs.length+ys.length) old E≤maxLen:=qa c.w _ old E (by unfold maxLen; omega);have hd:=Cx.drew_le c;obtain ⟨c',e1,e2,e3,e4,e5⟩:=Cx.new ⟨c.w.drew,c.A,c.t⟩ ((vs.take (xs.length * R.size))++nw++(Builtin.zeroCells z.cells (grownCap c.w (xs.length+ys.length) old E - (xs.length+ys.length))).toList) E (cond m 0 ((xs++ys).length * R.size));have ea:((vs.take (xs.length * R.size))++nw++(Builtin.zeroCells z.cells (grownCap c.w (xs.length+ys.length) old E - (xs.length+ys.length))).toList).toArray=(vs.take (xs.length * R.size)).toArray++nw.toArray++Builtin.zeroCells z.cells (grownCap c.w (xs.length+ys.length) old E - (xs.length+ys.length)):=by
        apply DZ; simp
      refine ⟨.slice (some ⟨c.w.heap.size,0,none⟩) (xs.length+ys.length) (grownCap c.w (xs.length+ys.length) old E),c',by rw [e1,ea],hd.le.trans e2.le,⟨vs,?_,hh.mono (hd.le.trans e2.le)⟩,_,_,by rw [hN]⟩;rw [hsame];exact (O.keep hd).keep e2
    rcases h1 with ⟨rfl,rfl⟩ | ⟨g,cap,rfl,hnc,hcm,hcs⟩
    · have hr:=run_append_nil (P:=P) c.w t ty E ti z hT hti hz1 ⟨ub,uo,none⟩ ys.length ucap nw (by rw [n1,hz2]) hcells hpos (by simp at hfar; omega) (by have:=hbytes; simp at this; omega)
      have:=fresh 0 (by simpa using hpos);simp only [aH,fU,pN,eU,xF,bm] at this hr⊢;rw [hr];simpa using this
    · obtain ⟨hg,hA⟩:=hon g rfl
      by_cases hroom:xs.length+ys.length≤cap
      · have hfit:xs.length * R.size+nw.length≤vs.length:=by
          rw [n1,←fi];exact cx (mb _ hroom) hcs
        have hr:=Bi (P:=P) c.w t ty E ti hT hti g xs.length cap vs.toArray hg ⟨ub,uo,none⟩ ys.length ucap nw (by rw [n1,hz2]) hcells n3 hroom (by rw [hz2]; simpa using hfit);rw [hz2] at hr;simp only at hr;obtain ⟨c',e1,e2,e3,e4⟩:=Cx.row (m:=vs.take (xs.length * R.size)++nw++vs.drop (xs.length * R.size+nw.length)) hg _ hA (fun o ho=>by
          have ho:o < xs.length * R.size:=by
            cases m
            · exact ho
            · exact absurd ho (tK _)
          rw [aC,ax (by rw [ay]; omega),aO,ae ho];rfl) (cond m 0 (xs.length * R.size)) (aw _)
        refine ⟨.slice (some ⟨g,0,none⟩) (xs.length+ys.length) cap,c',by rw [hr,e1],e2.le,⟨vs.take (xs.length * R.size)++nw++vs.drop (xs.length * R.size+nw.length),Own.set O k hk e2 (fun b h=>by subst h; rfl) (fun b hb=>?_) (fun b hb=> .inl hb),hp,.inr ⟨g,cap,rfl,hnc,hcm,?_⟩,fun i x hx=>?_⟩,_,_,by rw [hN]⟩
        · simp only [es,blk,aM] at hb; subst hb; exact ⟨e3,e4⟩
        · simp only [ai,be,ay]
          omega
        · exact helem c' _ e2.le i x (by rw [ax (List.getElem?_eq_some_iff.1 hx).1]; exact hx)
      · have uZ:∀j w,(vs.take (xs.length * R.size))[j]? = some w→c.w.cell? ((⟨g,0,none⟩:Addr).add j)=some w:=fun j w hw=>by
          rw [dj,fU,fh _ _ _ _ _ _ hg,bJ];rw [aO] at hw;split at hw
          · exact hw
          · cases hw
        have hr:=Jp (P:=P) c.w t ty E ti z hT hti hz1 ⟨g,0,none⟩ xs.length cap (vs.take (xs.length * R.size)) (by rw [ay,hz2]; omega) uZ ⟨ub,uo,none⟩ ys.length ucap nw (by rw [n1,hz2]) hcells (by omega) (by omega) (Dk (by omega) hbytes);rw [hr];exact fresh cap (by omega)
theorem apl (R:Rp α) (z:Value) (by_ ty:Nat) {ρ:Operand→Value} {o:Oper} {E t:TypeId} {v u:Value} {vs:List Value} {xs ys zs:List α} {m:Bool} (k:Nat) (O:Own c G F) (h:OA R c v vs xs) (hS:Sl R c u ys) (happ:app xs ys=some zs) (hT:P.underlying t=some (.slice E)) (hk:F[k]? = some (es m R v E vs xs):=by rfl)
    (hi:(P.info? E).map (fun i=>(i.zero,i.size,i.bytes))=some (some z,R.size,by_):=by kernel_rfl) (hz:z.cells.size=R.size:=by rfl) (hby:Nat.ble by_ 128=true:=by kernel_rfl) (hx:execOp ρ o=(do pure (Next.value (←Builtin.append_ #[t,t] ty #[v,u])):Sem Next):=by kernel_rfl):
    ∃v' c',(execOp ρ o).run P c.w= .ok (.value v') c'.w∧c.le c'∧(∃vs',Own c' G (F.set k (es m R v E vs' xs))∧OA R c' v vs' xs)∧∃a q,v'= .slice a zs.length q:=by
  obtain ⟨nw,n1,n2,n3,n4⟩:=hS.flat;obtain ⟨ua,ucap,rfl,hu1,hu2,hu3⟩:=hS;have n5:ys≠ []→∃ub uo,ua=some ⟨ub,uo,none⟩∧∀j w,nw[j]? = some w→c.w.cell? ⟨ub,uo+j,none⟩=some w:=fun hys=>by
    have hpos:0 < ys.length:=by
      rcases jh ys.length with h | h
      · exact absurd (cf h) hys
      · exact h
    obtain ⟨ub,uo,_,hua,_⟩:=hu3 0 ys[0] (af hpos);subst hua;exact ⟨ub,uo,rfl,fun j w hw=>(n2 j w hw).cell⟩
  obtain ⟨v',c',h1,h2,h3,h4⟩:=Aa (P:=P) (t:=t) (ty:=ty) (ucap:=ucap) k O hk h n1 n5 n3 n4 happ hT hi hz hby;exact ⟨v',c',rx hx h1,h2,h3,h4⟩
end
end Go.Lt
namespace Go.Proofs.YtclmdpamofdoiaaGreatDoor
open Go Go.Lt
set_option maxRecDepth 10000
set_option linter.unusedVariables false
attribute [local irreducible] W WL AC
open Tryz
variable {c0:Cx} {G:Gm} {F:List En} {sg:Sto} {v1 v2 v3 v4 v5 v6 v7 v8 v9 v10 v11 v12 v13 v14 v15 v16 v17 v18 v19 v20 v21 v22 v23 v24 v25 v26 v27 v28 v29 v30 v31 v32 v33 v34 v35 v36 v37 v38 v39 v40 v41 v42 v43 v44 v45 v46 v47 v48 v49 v50 v51 v52 v53 v54 v55 v56 v57 v58 v59 v60:Value}
def kT:List (Int×Int×Int):=[(0,9,3),(10,10,2),(11,12,3),(13,13,1),(14,31,3),(127,159,3),(173,173,3),(768,879,4),(1155,1161,4),(1425,1469,4),(1471,1471,4),(1473,1474,4),(1476,1477,4),(1479,1479,4),(1536,1541,7),(1552,1562,4),(1564,1564,3),(1611,1631,4),(1648,1648,4),(1750,1756,4),(1757,1757,7),(1759,1764,4),(1767,1768,4),(1770,1773,4),(1807,1807,7),(1809,1809,4),(1840,1866,4),(1958,1968,4),(2027,2035,4),(2070,2073,4),(2075,2083,4),(2192,2193,7),(2259,2273,4),(2274,2274,7),(2275,2306,4),(2307,2307,8),(2362,2362,4),(2363,2363,8),(2364,2364,4),(2366,2368,8),(2369,2376,4),(2377,2380,8),(2381,2381,4),(2382,2383,8),(2385,2391,4),(2402,2403,4),(2433,2433,4),(2434,2435,8),(2492,2492,4),(2494,2494,4),(2495,2496,8),(2497,2500,4),(2503,2504,8),(2507,2508,8),(2509,2509,4),(2519,2519,4),(2530,2531,4),(2561,2562,4),(2563,2563,8),(2620,2620,4),(2622,2624,8),(2625,2626,4),(2631,2632,4),(2635,2637,4),(2691,2691,8),(2748,2748,4),(2750,2752,8),(2753,2757,4),(2761,2761,8),(2765,2765,4),(2818,2819,8),(2876,2876,4),(2878,2879,4),(2880,2880,8),(2881,2884,4),(2887,2888,8),(2893,2893,4),(2902,2903,4),(3073,3075,8),(3132,3132,4),(3134,3136,4),(3137,3140,8),(3142,3144,4),(3146,3149,4),(3276,3277,4),(3330,3331,8),(3390,3390,4),(3391,3392,8),(3393,3396,4),(3398,3400,8),(3405,3405,4),(3406,3406,7),(3633,3633,4),(3635,3635,8),(3636,3642,4),(3655,3662,4),(3761,3761,4),(3763,3763,8),(3764,3772,4),(3864,3865,4),(3902,3903,8),(3953,3966,4),(4155,4156,8),(4957,4959,4),(6158,6158,3),(6832,6862,4),(7616,7679,4),(8203,8203,3),(8204,8204,4),(8205,8205,5),(8206,8207,3),(8232,8238,3),(8288,8303,3),(8400,8432,4),(12330,12335,4),(12441,12442,4),(42607,42610,4),(64286,64286,4),(65024,65039,4),(65056,65071,4),(65279,65279,3),(65520,65531,3),(69821,69821,7),(69837,69837,7),(127462,127487,6),(127995,127999,4),(917504,917535,3),(917536,917631,4),(917632,917759,3),(917760,917999,4),(918000,921599,3)]
def mI:Option (List (Int×Int×Int)):=
 some kT
theorem yV (d:Own c0 G F) {r:List (Int×Int×Int)} (H:mI=some r): Calls prog 270 #[] c0.w (aT c0 fun c v=>∃a b,Own c G (es true iu a 326 b r :: F)∧v=a∧OA iu c a b r):=by
 unfold mI at H;refine en func270 rfl rfl (sr (va (Y) (wln (sr (va (aF 0 9 3) (va (aF 10 10 2) (va (aF 11 12 3) (va (aF 13 13 1) (va (aF 14 31 3) (va (aF 127 159 3) (va (aF 173 173 3) (va (aF 768 879 4) (va (aF 1155 1161 4) (va (aF 1425 1469 4) (va (aF 1471 1471 4) (va (aF 1473 1474 4) (va (aF 1476 1477 4) (va (aF 1479 1479 4) (va (aF 1536 1541 7) (va (aF 1552 1562 4) (va (aF 1564 1564 3) (va (aF 1611 1631 4) (va (aF 1648 1648 4) (va (aF 1750 1756 4) (va (aF 1757 1757 7) (va (aF 1759 1764 4) (va (aF 1767 1768 4) (va (aF 1770 1773 4) (va (aF 1807 1807 7) (va (aF 1809 1809 4) (va (aF 1840 1866 4) (va (aF 1958 1968 4) (va (aF 2027 2035 4) (va (aF 2070 2073 4) (va (aF 2075 2083 4) (va (aF 2192 2193 7) (va (aF 2259 2273 4) (va (aF 2274 2274 7) (va (aF 2275 2306 4) (va (aF 2307 2307 8) (va (aF 2362 2362 4) (va (aF 2363 2363 8) (va (aF 2364 2364 4) (va (aF 2366 2368 8) (va (aF 2369 2376 4) (va (aF 2377 2380 8) (va (aF 2381 2381 4) (va (aF 2382 2383 8) (va (aF 2385 2391 4) (va (aF 2402 2403 4) (va (aF 2433 2433 4) (va (aF 2434 2435 8) (va (aF 2492 2492 4) (va (aF 2494 2494 4) (va (aF 2495 2496 8) (va (aF 2497 2500 4) (va (aF 2503 2504 8) (va (aF 2507 2508 8) (va (aF 2509 2509 4) (va (aF 2519 2519 4) (va (aF 2530 2531 4) (va (aF 2561 2562 4) (va (aF 2563 2563 8) (va (aF 2620 2620 4) (va (aF 2622 2624 8) (va (aF 2625 2626 4) (va (aF 2631 2632 4) (va (aF 2635 2637 4) (va (aF 2691 2691 8) (va (aF 2748 2748 4) (va (aF 2750 2752 8) (va (aF 2753 2757 4) (va (aF 2761 2761 8) (va (aF 2765 2765 4) (va (aF 2818 2819 8) (va (aF 2876 2876 4) (va (aF 2878 2879 4) (va (aF 2880 2880 8) (va (aF 2881 2884 4) (va (aF 2887 2888 8) (va (aF 2893 2893 4) (va (aF 2902 2903 4) (va (aF 3073 3075 8) (va (aF 3132 3132 4) (va (aF 3134 3136 4) (va (aF 3137 3140 8) (va (aF 3142 3144 4) (va (aF 3146 3149 4) (va (aF 3276 3277 4) (va (aF 3330 3331 8) (va (aF 3390 3390 4) (va (aF 3391 3392 8) (va (aF 3393 3396 4) (va (aF 3398 3400 8) (va (aF 3405 3405 4) (va (aF 3406 3406 7) (va (aF 3633 3633 4) (va (aF 3635 3635 8) (va (aF 3636 3642 4) (va (aF 3655 3662 4) (va (aF 3761 3761 4) (va (aF 3763 3763 8) (va (aF 3764 3772 4) (va (aF 3864 3865 4) (va (aF 3902 3903 8) (va (aF 3953 3966 4) (va (aF 4155 4156 8) (va (aF 4957 4959 4) (va (aF 6158 6158 3) (va (aF 6832 6862 4) (va (aF 7616 7679 4) (va (aF 8203 8203 3) (va (aF 8204 8204 4) (va (aF 8205 8205 5) (va (aF 8206 8207 3) (va (aF 8232 8238 3) (va (aF 8288 8303 3) (va (aF 8400 8432 4) (va (aF 12330 12335 4) (va (aF 12441 12442 4) (va (aF 42607 42610 4) (va (aF 64286 64286 4) (va (aF 65024 65039 4) (va (aF 65056 65071 4) (va (aF 65279 65279 3) (va (aF 65520 65531 3) (va (aF 69821 69821 7) (va (aF 69837 69837 7) (va (aF 127462 127487 6) (va (aF 127995 127999 4) (va (aF 917504 917535 3) (va (aF 917536 917631 4) (va (aF 917632 917759 3) (va (aF 917760 917999 4) (va (aF 918000 921599 3) (me (Own.sl (R:=iu) (E:=326) (ls:=kT.map (fun x=>[I x.1,I x.2.1,I x.2.2])) (vs:=(kT.map (fun x=>[I x.1,I x.2.1,I x.2.2])).flatten) (xs:=kT) true d (aX _) rfl (nQ.map _ (fun _=>rfl) _) (by kernel_rfl) (by kernel_rfl)) ?_))))))))))))))))))))))))))))))))))))))))))))))))))))))))))))))))))))))))))))))))))))))))))))))))))))))))))))))))))))))))))))))))))))))));rintro v5 f i ⟨h,e,g⟩;refine va (v5) (wln (W.ret ?_));obtain rfl:=si H;exact r1 (qq f ⟨v5,h,e,rfl,g⟩)
def nh (p0:Int) (q0_0:List (Int×Int×Int)) (q1_0:Int):Option (Bool):=
 (idx q0_0 p0).bind fun a=>
 some (decide (a.2.1≥(w64 q1_0)))
theorem zV {d:Nat} {e:Nat} (o:Own c0 G F) (b:Int) (q0_0:List (Int×Int×Int)) (q1_0:Int) {r:Bool} (s:∀j u,([v2]:List Value)[j]? = some u→Im c0 d (0+j) u) (k:Sl iu c0 v2 q0_0) (t:∀j u,([J q1_0]:List Value)[j]? = some u→Im c0 e (0+j) u) (H:nh b q0_0 q1_0=some r): Calls prog 272 #[I b,Q d,Q e] c0.w (aT c0 fun c v=>Own c G (F)∧v=B r):=by
 unfold nh at H;refine en func272 rfl rfl (sr (va (B false) (wln (W.seq (rD [] (Kp G0 []) o ?_)))));intro h q p;have y:Kp G0 [] h:=Kp.nil0;refine tx 0 (fun g a=>l1 iv ((mm s) 0 _ rfl)) (ta 1 (I b) (bn H fun f l H=>?_));obtain ⟨x,i,n⟩:=Sl.at (k.mono q) (bz l);obtain rfl:=i;refine tx 2 (fun g a=>ix iv k.m l) (ta 3 (Qo (sb v2) (so v2+b.toNat * 3+1)) (tx 4 (fun g a=>l1 u_3 ((mm n) 1 _ rfl)) (tx 5 (fun g a=>l1 mf ((mm t) 0 _ rfl)) (ta 6 (I (w64 q1_0)) (ta 7 (B (decide (f.2.1≥(w64 q1_0)))) (ta 8 (B (decide (f.2.1≥(w64 q1_0)))) (dn (nrm (W.ret ?_)))))))));obtain rfl:=si H;exact r1 (qq h ⟨p,rfl⟩)
def gA (p0:Int) (p1:Int) (p2:Int):Option (Bool):=
 (bT (decide (p0≥p1)) (some (decide (p0≤p2)))).bind fun a=>
 some a
theorem kj (f:Own c0 G F) (a:Int) (e:Int) (b:Int) {r:Bool} (H:gA a e b=some r): Calls prog 312 #[J a,J e,J b] c0.w (aT c0 fun c v=>Own c G (F)∧v=B r):=by
 unfold gA at H;refine en func312 rfl rfl (sr (va (B false) (wln (W.seq (bn H fun g h H=>W.join (Jn c0 fun c l=>Own c G (F)∧l= [(6,B g)]) ?_ ?_)))))
 ·clear H;refine W.region (va (J a) (va (J e) (va (B (decide (a≥e))) ?_)));rcases bo (decide (a≥e)) with d | d
  ·have i:=anT d h;refine vb d (wa (J a) (wa (J b) (wa (B (decide (a≤b))) ?_)));obtain rfl:=si i;exact vv (B (decide (a≤b))) (wln (jn c0 ⟨f,rfl⟩))
  obtain rfl:=anF d h;exact vb d (pz (ps (vv (B false) (wln (jn c0 ⟨f,rfl⟩)))))
 rintro m p ⟨k,n,_,rfl,o,rfl,j,rfl⟩;refine nrm (W.ret ?_);obtain rfl:=si H;exact r1 (qq k ⟨j,rfl⟩)
def jQ (p0:Int):Option (Bool):=
 (gA p0 44032 55203).bind fun a=>
 some a
theorem sy (d:Own c0 G F) (a:Int) {r:Bool} (H:jQ a=some r): Calls prog 313 #[J a] c0.w (aT c0 fun c v=>Own c G (F)∧v=B r):=by
 unfold jQ at H;refine en func313 rfl rfl (sr (va (B false) (wln (sr (va (J a) (bn H fun b g H=>cl (kj d a 44032 55203 g) ?_))))));rintro v7 f h ⟨e,rfl⟩;refine va (B b) (wln (W.ret ?_));obtain rfl:=si H;exact r1 (qq f ⟨e,rfl⟩)
def kb (p0:Int):Option (Int):=
 (gA p0 4352 4447).bind fun i=>
 (orE i ((gA p0 43360 43388).bind fun j=>
 some j)).bind fun h=>
 if h=true then
 some 9
 else
 (gA p0 4448 4519).bind fun c=>
 (orE c ((gA p0 55216 55238).bind fun d=>
 some d)).bind fun a=>
 if a=true then
 some 10
 else
 (gA p0 4520 4607).bind fun e=>
 (orE e ((gA p0 55243 55291).bind fun f=>
 some f)).bind fun b=>
 if b=true then
 some 11
 else
 (jQ p0).bind fun g=>
 if (!g)=true then
 some 0
 else
 if (((w32 (p0 - 44032)).tmod 28)==0)=true then
 some 12
 else
 some 13
theorem vz (O0:Own c0 G F) (a:Int) {r:Int} (H:kb a=some r): Calls prog 273 #[J a] c0.w (aT c0 fun c v=>Own c G (F)∧v=I r):=by
 unfold kb at H;refine en func273 rfl rfl (sr (va (I 0) (wln (W.seq (W.block (W.seq (bn H fun w0 h1 H=>bn H fun e0 h2 H=>W.join (Jn c0 fun c l=>Own c G (F)∧l= [(0,J a),(3,B e0)]) ?_ ?_)))))))
 ·clear H;refine W.region (va (J a) (cl (kj O0 a 4352 4447 h1) ?_));rintro v8 c7 l7 ⟨S,rfl⟩;rcases bo (w0) with j | j
  ·obtain rfl:=orT j h2;exact vb j (pz (vv (B true) (wln (jn c7 ⟨S,rfl⟩))))
  have e:=orF j h2;refine vb j (wa (J a) (wn (bn e fun A g0 e=>cl (kj S a 43360 43388 g0) ?_)));rintro v17 U l16 ⟨P,rfl⟩;obtain rfl:=si e;exact vv (B A) (wln (jn U ⟨P,rfl⟩))
 rintro e_ w_ ⟨u,a1,_,rfl,d1,rfl,o,rfl⟩;refine nrm (cn H (fun i0 H=>?_) (fun i0 H=>?_))
 ·refine sr (va (I 9) (wln (W.ret (bkr (thr ?_)))));obtain rfl:=si H;exact r1 (qq u ⟨o,rfl⟩)
 refine W.seq (bn H fun M j0 H=>bn H fun D y H=>W.join (Jn u fun c l=>Own c G (F)∧l= [(0,J a),(10,B D)]) ?_ ?_)
 ·clear H;refine W.region (va (J a) (cl (kj o a 4448 4519 j0) ?_));rintro v32 X e1 ⟨p,rfl⟩;rcases bo (M) with b | b
  ·obtain rfl:=orT b y;exact vb b (pz (vv (B true) (wln (jn X ⟨p,rfl⟩))))
  have f:=orF b y;refine vb b (wa (J a) (wn (bn f fun k k0 f=>cl (kj p a 55216 55238 k0) ?_)));rintro v41 Z f1 ⟨R,rfl⟩;obtain rfl:=si f;exact vv (B k) (wln (jn Z ⟨R,rfl⟩))
 rintro e_ w_ ⟨x,b1,_,rfl,g1,rfl,q,rfl⟩;refine nrm (cn H (fun l0 H=>?_) (fun l0 H=>?_))
 ·refine sr (va (I 10) (wln (W.ret (bkr (thr ?_)))));obtain rfl:=si H;exact r1 (qq x ⟨q,rfl⟩)
 refine W.seq (bn H fun N m0 H=>bn H fun E z H=>W.join (Jn x fun c l=>Own c G (F)∧l= [(0,J a),(17,B E)]) ?_ ?_)
 ·clear H;refine W.region (va (J a) (cl (kj q a 4520 4607 m0) ?_));rintro v56 a0 i1 ⟨s,rfl⟩;rcases bo (N) with d | d
  ·obtain rfl:=orT d z;exact vb d (pz (vv (B true) (wln (jn a0 ⟨s,rfl⟩))))
  have g:=orF d z;refine vb d (wa (J a) (wn (bn g fun m o0 g=>cl (kj s a 55243 55291 o0) ?_)));rintro n1 b0 j1 ⟨T,rfl⟩;obtain rfl:=si g;exact vv (B m) (wln (jn b0 ⟨T,rfl⟩))
 rintro e_ w_ ⟨d0,c1,_,rfl,k1,rfl,t,rfl⟩;refine nrm (cn H (fun q0 H=>?_) (fun q0 H=>?_))
 ·refine sr (va (I 11) (wln (W.ret (bkr (thr ?_)))));obtain rfl:=si H;exact r1 (qq d0 ⟨t,rfl⟩)
 refine sr (va (J a) (bn H fun n s0 H=>cl (sy t a s0) ?_));rintro p1 i m1 ⟨h,rfl⟩;refine vv (B (!n)) (wln (cn H (fun t0 H=>?_) (fun t0 H=>?_)))
 ·refine sr (va (I 0) (wln (W.ret (bkr (thr ?_)))));obtain rfl:=si H;exact r1 (qq i ⟨h,rfl⟩)
 refine sr (va (J a) (va (J (w32 (a - 44032))) (va (J ((w32 (a - 44032)).tmod 28)) (vv (B (((w32 (a - 44032)).tmod 28)==0)) (wln (cn H (fun u0 H=>?_) (fun u0 H=>?_)))))))
 ·refine sr (va (I 12) (wln (W.ret (bkr (thr ?_)))));obtain rfl:=si H;exact r1 (qq i ⟨h,rfl⟩)
 refine W.skip (bkn (nrm (sr (va (I 13) (wln (W.ret ?_))))));obtain rfl:=si H;exact r1 (qq i ⟨h,rfl⟩)
def gb (p0:Int) (p1_0_0:List (Int×Int×Int)) (p1_1_0:Int):Option (Int):=
 (cJ (σ:=Int×Int) (τ:=Int) ((p0 - 0).toNat+1) (fun a=>
 if (decide (a.1 < a.2))=true then
 (nh (w64 ((IntKind.u64.wrap (w64 (a.1+a.2))).fdiv (2 ^ 1))) p1_0_0 p1_1_0).bind fun b=>
 if (!b)=true then
 some (.inl ((w64 ((w64 ((IntKind.u64.wrap (w64 (a.1+a.2))).fdiv (2 ^ 1)))+1)),a.2))
 else
 some (.inl (a.1,(w64 ((IntKind.u64.wrap (w64 (a.1+a.2))).fdiv (2 ^ 1)))))
 else
 some (.inr (a.1))) (0,p0)).bind fun c=>
 some c
theorem oB {b1_0:Nat} {b1_1:Nat} (A:Own c0 G F) (b:Int) (p1_0_0:List (Int×Int×Int)) (p1_1_0:Int) {r:Int} (N:∀j u,([v2]:List Value)[j]? = some u→Im c0 b1_0 (0+j) u) (M:Sl iu c0 v2 p1_0_0) (P:∀j u,([J p1_1_0]:List Value)[j]? = some u→Im c0 b1_1 (0+j) u) (H:gb b p1_0_0 p1_1_0=some r): Calls prog 271 #[I b,.func (.func 272) #[] #[Q b1_0,Q b1_1]] c0.w (aT c0 fun c v=>Own c G (F)∧v=I r):=by
 unfold gb at H;refine en func271 rfl rfl (sr (va (I 0) (wln (sr (va (I b) (va (I 0) (va (I b) (wln (W.seq (W.block (bn H fun g y k=>lp y (fun a=>Jn c0 fun c l=>Own c G (F)∧l= [(1,.func (.func 272) #[] #[Q b1_0,Q b1_1]),(5,I a.1),(6,I a.2)]) (fun h ex e w=>ex= .exit 0∧(Jn c0 fun c l=>Own c G (F)∧l= [(5,I h)]) e w) ?_ ?_ ?_)))))))))))
 ·clear k y;intro a X q z H;revert q z;rintro E R ⟨D,Z,_,rfl,l7,rfl,o,rfl⟩;refine W.seq (sr (va (I a.1) (va (I a.2) (va (B (decide (a.1 < a.2))) (wln (cn H (fun s H=>?_) (fun s H=>?_)))))))
  ·refine W.skip (nrm (W.block (sr (va (I a.1) (va (I a.2) (va (I (w64 (a.1+a.2))) (va (.int .u64 (IntKind.u64.wrap (w64 (a.1+a.2)))) (va (.int .u64 ((IntKind.u64.wrap (w64 (a.1+a.2))).fdiv (2 ^ 1))) (vv (I (w64 ((IntKind.u64.wrap (w64 (a.1+a.2))).fdiv (2 ^ 1)))) (wln (sr (va (.func (.func 272) #[] #[Q b1_0,Q b1_1]) (va (I (w64 ((IntKind.u64.wrap (w64 (a.1+a.2))).fdiv (2 ^ 1)))) (bn H fun i t H=>cl (zV o (w64 ((IntKind.u64.wrap (w64 (a.1+a.2))).fdiv (2 ^ 1))) p1_0_0 p1_1_0 (mm N) M.m (mm P) t) ?_))))))))))))));rintro v20 f T ⟨d,rfl⟩;refine va (B (!i)) (wln (cn H (fun x H=>?_) (fun x H=>?_)))
   ·refine W.region (va (I (w64 ((IntKind.u64.wrap (w64 (a.1+a.2))).fdiv (2 ^ 1)))) (vv (I (w64 ((w64 ((IntKind.u64.wrap (w64 (a.1+a.2))).fdiv (2 ^ 1)))+1))) (WL.nil (bkn ?_))));obtain rfl:=si H;exact ⟨_,rfl,jn f ⟨d,rfl⟩⟩
   refine W.region (vv (I (w64 ((IntKind.u64.wrap (w64 (a.1+a.2))).fdiv (2 ^ 1)))) (WL.nil (bkn ?_)));obtain rfl:=si H;exact ⟨_,rfl,jn f ⟨d,rfl⟩⟩
  refine W.exit (thx ?_);obtain rfl:=si H;exact ⟨_,rfl,rfl,jn D ⟨o,rfl⟩⟩
 ·exact jn c0 ⟨A,rfl⟩
 rintro _ E R ⟨rfl,p,S,_,rfl,U,rfl,n,rfl⟩;refine bke (nrm (sr (vv (I g) (wln (W.ret ?_)))));obtain rfl:=si k;exact r1 (qq p ⟨n,rfl⟩)
def qd (p0:Int):Option (Int):=
 (mI).bind fun a=>
 (gb (a.length:Int) a p0).bind fun b=>
 (bT (decide (b < (a.length:Int))) ((idx a b).bind fun d=>
 some (decide (d.1≤(w64 p0))))).bind fun c=>
 if c=true then
 (idx a b).bind fun e=>
 some e.2.2
 else
 (kb p0).bind fun f=>
 some f
theorem DD (O0:Own c0 G F) (i:Int) {r:Int} (H:qd i=some r): Calls prog 227 #[J i] c0.w (aT c0 fun c v=>Own c G (F)∧v=I r):=by
 unfold qd at H;refine en func227 rfl rfl (sr (me (bx 21 [J i] O0) ?_));rintro v5 c4 l4 ⟨b1,rfl,O2,R⟩;refine va (I 0) (wln (sr (bn H fun j h6 H=>cl (yV O2 h6) ?_)));rintro v7 h1 p1 ⟨_,u8,U,rfl,s⟩;refine me (al 323 [Y] U) ?_;rintro v19 i1 E ⟨y,rfl,X⟩;obtain ⟨b,d,e,rfl⟩:=((s.mono E)).form;refine md (sC 323 0 (.slice b d e) [.slice b d e] 0 X ⟨s.m.one,trivial⟩) ?_;rintro j1 v0 t;refine wln (sr (vx (le1 0 iv (t.on 0 rfl)) (vx (lnO 3 iv s.m) ?_)));obtain ⟨k1,l0,q1,Z,g⟩:=t.frz 1 rfl (s.mono (E.trans v0));refine WL.gh l0 ?_;obtain ⟨m1,m0,M,a0,n⟩:=Own.frzB 0 Z rfl;refine WL.gh m0 ?_;have b0:=a0.sD 2 [1];refine va (.func (.func 272) #[] #[Q y,Q b1]) (bn H fun a o0 H=>cl (oB b0 (j.length:Int) j i n g.m (mm R) o0) ?_);rintro v40 i0 N ⟨d0,rfl⟩;refine va (I a) (wln (W.seq (W.seq (bn H fun P z H=>W.join (Jn i0 fun c l=>Own c G (es false iu (.slice b d e) 326 u8 j :: F)∧l= [(1,Q b1),(3,Q y),(4,I a),(23,B P)]) ?_ ?_))))
 ·clear H;refine rD [] (Kp G0 []) d0 ?_;intro p w0 u;have t1:Kp G0 [] p:=Kp.nil0;refine ta 0 (I a) (tx 1 (fun k f=>l1 iv ((mm n) 0 _ rfl)) (tx 2 (fun k f=>ln 3 iv g.m) (ta 3 (B (decide (a < (j.length:Int)))) ?_)));rcases bo (decide (a < (j.length:Int))) with h | h
  ·have o:=anT h z;refine bn o fun q A o=>AC.takeb 4 h rfl (by kernel_rfl) (by kernel_rfl) (fun k f=>(by kernel_rfl)) (tx 5 (fun k f=>l1 iv ((mm n) 0 _ rfl)) (ta 6 (I a) ?_));obtain ⟨e1,q0,y0⟩:=Sl.at (g.mono (M.trans (N.trans w0))) (bz A);obtain rfl:=q0;refine tx 7 (fun k f=>ix iv g.m A) (ta 8 (Qo (sb (.slice b d e)) (so (.slice b d e)+a.toNat * 3)) (tx 9 (fun k f=>l1 u_3 ((mm y0) 0 _ rfl)) (tx 10 (fun k f=>l1 mf ((mm R) 0 _ rfl)) (ta 11 (I (w64 i)) (ta 12 (B (decide (q.1≤(w64 i)))) ?_)))));obtain rfl:=si o;exact ta 13 (B (decide (q.1≤(w64 i)))) (dn (nrm (jn p ⟨u,rfl⟩)))
  obtain rfl:=anF h z;exact AC.takeb 4 h rfl (by kernel_rfl) (by kernel_rfl) (fun k f=>(by kernel_rfl)) (tp 5 (tp 6 (tp 7 (tp 8 (tp 9 (tp 10 (tp 11 (tp 12 (ta 13 (B false) (dn (nrm (jn p ⟨u,rfl⟩))))))))))))
 rintro e_ w_ ⟨j0,n1,_,rfl,x0,rfl,x,rfl⟩;refine nrm (cn H (fun s0 H=>?_) (fun s0 H=>?_))
 ·refine sr (vx (l1 iv ((mm n) 0 _ rfl)) (va (I a) (bn H fun S D H=>?_)));obtain ⟨f1,t0,z0⟩:=Sl.at (g.mono (M.trans (N.trans x0))) (bz D);obtain rfl:=t0;refine vx (ix iv g.m D) (va (Qo (sb (.slice b d e)) (so (.slice b d e)+a.toNat * 3+2)) (vx (l1 u_3 (z0 2 _ rfl)) (va (I S.2.2) (wln (W.ret (thr ?_))))));obtain rfl:=si H;have e0:=x.sD 1 [];exact r1 (qq j0 ⟨e0,rfl⟩)
 refine W.skip (nrm (sr (vx (l1 mf ((mm R) 0 _ rfl)) (bn H fun T u0 H=>cl (vz x i u0) ?_))));rintro u1 k0 s1 ⟨f0,rfl⟩;refine va (I T) (wln (W.ret ?_));obtain rfl:=si H;have g0:=f0.sD 1 [];exact r1 (qq k0 ⟨g0,rfl⟩)
def mH (p0:Int) (q0_0:List (Int×Int)) (q1_0:Int):Option (Bool):=
 (idx q0_0 p0).bind fun a=>
 some (decide (a.2≥q1_0))
theorem yU {d:Nat} {e:Nat} (o:Own c0 G F) (b:Int) (q0_0:List (Int×Int)) (q1_0:Int) {r:Bool} (s:∀j u,([v2]:List Value)[j]? = some u→Im c0 d (0+j) u) (k:Sl qJ c0 v2 q0_0) (t:∀j u,([J q1_0]:List Value)[j]? = some u→Im c0 e (0+j) u) (H:mH b q0_0 q1_0=some r): Calls prog 275 #[I b,Q d,Q e] c0.w (aT c0 fun c v=>Own c G (F)∧v=B r):=by
 unfold mH at H;refine en func275 rfl rfl (sr (va (B false) (wln (W.seq (rD [] (Kp G0 []) o ?_)))));intro h q p;have y:Kp G0 [] h:=Kp.nil0;refine tx 0 (fun g a=>l1 tv ((mm s) 0 _ rfl)) (ta 1 (I b) (bn H fun f l H=>?_));obtain ⟨x,i,n⟩:=Sl.at (k.mono q) (bz l);obtain rfl:=i;refine tx 2 (fun g a=>ix tv k.m l) (ta 3 (Qo (sb v2) (so v2+b.toNat * 2+1)) (tx 4 (fun g a=>l1 mf ((mm n) 1 _ rfl)) (tx 5 (fun g a=>l1 mf ((mm t) 0 _ rfl)) (ta 6 (B (decide (f.2≥q1_0))) (ta 7 (B (decide (f.2≥q1_0))) (dn (nrm (W.ret ?_))))))));obtain rfl:=si H;exact r1 (qq h ⟨p,rfl⟩)
def kS:List (Int×Int):=[(169,169),(174,174),(8252,8252),(8265,8265),(8482,8482),(8505,8505),(8596,8601),(8617,8618),(8986,8987),(9000,9000),(9096,9096),(9167,9167),(9193,9203),(9208,9210),(9410,9410),(9642,9643),(9654,9654),(9664,9664),(9723,9726),(9728,9733),(9735,9746),(9748,9861),(9872,9989),(9992,10002),(10004,10004),(10006,10006),(10013,10013),(10017,10017),(10024,10024),(10035,10036),(10052,10052),(10055,10055),(10060,10060),(10062,10062),(10067,10069),(10071,10071),(10083,10087),(10133,10135),(10145,10145),(10160,10160),(10175,10175),(10548,10549),(11013,11015),(11035,11036),(11088,11088),(11093,11093),(12336,12336),(12349,12349),(12951,12951),(12953,12953),(126976,127231),(127245,127247),(127279,127279),(127340,127345),(127358,127359),(127374,127374),(127377,127386),(127405,127461),(127489,127503),(127514,127514),(127535,127535),(127538,127546),(127548,127551),(127561,127994),(128000,128317),(128326,128591),(128640,128767),(128884,128895),(128981,129023),(129036,129039),(129096,129103),(129114,129119),(129160,129167),(129198,129279),(129292,129338),(129340,129349),(129351,129791),(130048,131069)]
def lC:Option (List (Int×Int)):=
 some kS
theorem xn (d:Own c0 G F) {r:List (Int×Int)} (H:lC=some r): Calls prog 274 #[] c0.w (aT c0 fun c v=>∃a b,Own c G (es true qJ a 329 b r :: F)∧v=a∧OA qJ c a b r):=by
 unfold lC at H;refine en func274 rfl rfl (sr (va (Y) (wln (sr (va (JII 169 169) (va (JII 174 174) (va (JII 8252 8252) (va (JII 8265 8265) (va (JII 8482 8482) (va (JII 8505 8505) (va (JII 8596 8601) (va (JII 8617 8618) (va (JII 8986 8987) (va (JII 9000 9000) (va (JII 9096 9096) (va (JII 9167 9167) (va (JII 9193 9203) (va (JII 9208 9210) (va (JII 9410 9410) (va (JII 9642 9643) (va (JII 9654 9654) (va (JII 9664 9664) (va (JII 9723 9726) (va (JII 9728 9733) (va (JII 9735 9746) (va (JII 9748 9861) (va (JII 9872 9989) (va (JII 9992 10002) (va (JII 10004 10004) (va (JII 10006 10006) (va (JII 10013 10013) (va (JII 10017 10017) (va (JII 10024 10024) (va (JII 10035 10036) (va (JII 10052 10052) (va (JII 10055 10055) (va (JII 10060 10060) (va (JII 10062 10062) (va (JII 10067 10069) (va (JII 10071 10071) (va (JII 10083 10087) (va (JII 10133 10135) (va (JII 10145 10145) (va (JII 10160 10160) (va (JII 10175 10175) (va (JII 10548 10549) (va (JII 11013 11015) (va (JII 11035 11036) (va (JII 11088 11088) (va (JII 11093 11093) (va (JII 12336 12336) (va (JII 12349 12349) (va (JII 12951 12951) (va (JII 12953 12953) (va (JII 126976 127231) (va (JII 127245 127247) (va (JII 127279 127279) (va (JII 127340 127345) (va (JII 127358 127359) (va (JII 127374 127374) (va (JII 127377 127386) (va (JII 127405 127461) (va (JII 127489 127503) (va (JII 127514 127514) (va (JII 127535 127535) (va (JII 127538 127546) (va (JII 127548 127551) (va (JII 127561 127994) (va (JII 128000 128317) (va (JII 128326 128591) (va (JII 128640 128767) (va (JII 128884 128895) (va (JII 128981 129023) (va (JII 129036 129039) (va (JII 129096 129103) (va (JII 129114 129119) (va (JII 129160 129167) (va (JII 129198 129279) (va (JII 129292 129338) (va (JII 129340 129349) (va (JII 129351 129791) (va (JII 130048 131069) (me (Own.sl (R:=qJ) (E:=329) (ls:=kS.map (fun x=>[J x.1,J x.2])) (vs:=(kS.map (fun x=>[J x.1,J x.2])).flatten) (xs:=kS) true d (aX _) rfl (nQ.map _ (fun _=>rfl) _) (by kernel_rfl) (by kernel_rfl)) ?_)))))))))))))))))))))))))))))))))))))))))))))))))))))))))))))))))))))))))))))))))));rintro v5 f i ⟨h,e,g⟩;refine va (v5) (wln (W.ret ?_));obtain rfl:=si H;exact r1 (qq f ⟨v5,h,e,rfl,g⟩)
def fF (p0:Int) (p1_0_0:List (Int×Int)) (p1_1_0:Int):Option (Int):=
 (cJ (σ:=Int×Int) (τ:=Int) ((p0 - 0).toNat+1) (fun a=>
 if (decide (a.1 < a.2))=true then
 (mH (w64 ((IntKind.u64.wrap (w64 (a.1+a.2))).fdiv (2 ^ 1))) p1_0_0 p1_1_0).bind fun b=>
 if (!b)=true then
 some (.inl ((w64 ((w64 ((IntKind.u64.wrap (w64 (a.1+a.2))).fdiv (2 ^ 1)))+1)),a.2))
 else
 some (.inl (a.1,(w64 ((IntKind.u64.wrap (w64 (a.1+a.2))).fdiv (2 ^ 1)))))
 else
 some (.inr (a.1))) (0,p0)).bind fun c=>
 some c
theorem nI {b1_0:Nat} {b1_1:Nat} (A:Own c0 G F) (b:Int) (p1_0_0:List (Int×Int)) (p1_1_0:Int) {r:Int} (N:∀j u,([v2]:List Value)[j]? = some u→Im c0 b1_0 (0+j) u) (M:Sl qJ c0 v2 p1_0_0) (P:∀j u,([J p1_1_0]:List Value)[j]? = some u→Im c0 b1_1 (0+j) u) (H:fF b p1_0_0 p1_1_0=some r): Calls prog 271 #[I b,.func (.func 275) #[] #[Q b1_0,Q b1_1]] c0.w (aT c0 fun c v=>Own c G (F)∧v=I r):=by
 unfold fF at H;refine en func271 rfl rfl (sr (va (I 0) (wln (sr (va (I b) (va (I 0) (va (I b) (wln (W.seq (W.block (bn H fun g y k=>lp y (fun a=>Jn c0 fun c l=>Own c G (F)∧l= [(1,.func (.func 275) #[] #[Q b1_0,Q b1_1]),(5,I a.1),(6,I a.2)]) (fun h ex e w=>ex= .exit 0∧(Jn c0 fun c l=>Own c G (F)∧l= [(5,I h)]) e w) ?_ ?_ ?_)))))))))))
 ·clear k y;intro a X q z H;revert q z;rintro E R ⟨D,Z,_,rfl,l7,rfl,o,rfl⟩;refine W.seq (sr (va (I a.1) (va (I a.2) (va (B (decide (a.1 < a.2))) (wln (cn H (fun s H=>?_) (fun s H=>?_)))))))
  ·refine W.skip (nrm (W.block (sr (va (I a.1) (va (I a.2) (va (I (w64 (a.1+a.2))) (va (.int .u64 (IntKind.u64.wrap (w64 (a.1+a.2)))) (va (.int .u64 ((IntKind.u64.wrap (w64 (a.1+a.2))).fdiv (2 ^ 1))) (vv (I (w64 ((IntKind.u64.wrap (w64 (a.1+a.2))).fdiv (2 ^ 1)))) (wln (sr (va (.func (.func 275) #[] #[Q b1_0,Q b1_1]) (va (I (w64 ((IntKind.u64.wrap (w64 (a.1+a.2))).fdiv (2 ^ 1)))) (bn H fun i t H=>cl (yU o (w64 ((IntKind.u64.wrap (w64 (a.1+a.2))).fdiv (2 ^ 1))) p1_0_0 p1_1_0 (mm N) M.m (mm P) t) ?_))))))))))))));rintro v20 f T ⟨d,rfl⟩;refine va (B (!i)) (wln (cn H (fun x H=>?_) (fun x H=>?_)))
   ·refine W.region (va (I (w64 ((IntKind.u64.wrap (w64 (a.1+a.2))).fdiv (2 ^ 1)))) (vv (I (w64 ((w64 ((IntKind.u64.wrap (w64 (a.1+a.2))).fdiv (2 ^ 1)))+1))) (WL.nil (bkn ?_))));obtain rfl:=si H;exact ⟨_,rfl,jn f ⟨d,rfl⟩⟩
   refine W.region (vv (I (w64 ((IntKind.u64.wrap (w64 (a.1+a.2))).fdiv (2 ^ 1)))) (WL.nil (bkn ?_)));obtain rfl:=si H;exact ⟨_,rfl,jn f ⟨d,rfl⟩⟩
  refine W.exit (thx ?_);obtain rfl:=si H;exact ⟨_,rfl,rfl,jn D ⟨o,rfl⟩⟩
 ·exact jn c0 ⟨A,rfl⟩
 rintro _ E R ⟨rfl,p,S,_,rfl,U,rfl,n,rfl⟩;refine bke (nrm (sr (vv (I g) (wln (W.ret ?_)))));obtain rfl:=si k;exact r1 (qq p ⟨n,rfl⟩)
def om (p0:Int):Option (Bool):=
 (lC).bind fun a=>
 (fF (a.length:Int) a p0).bind fun b=>
 (bT (decide (b < (a.length:Int))) ((idx a b).bind fun d=>
 some (decide (d.1≤p0)))).bind fun c=>
 some c
theorem BV (O0:Own c0 G F) (j:Int) {r:Bool} (H:om j=some r): Calls prog 228 #[J j] c0.w (aT c0 fun c v=>Own c G (F)∧v=B r):=by
 unfold om at H;refine en func228 rfl rfl (sr (me (bx 21 [J j] O0) ?_));rintro v5 c4 l4 ⟨b1,rfl,O2,m3⟩;refine va (B false) (wln (sr (bn H fun h h6 H=>cl (xn O2 h6) ?_)));rintro v7 u0 a1 ⟨_,u8,D,rfl,s⟩;refine me (al 327 [Y] D) ?_;rintro v19 v0 z ⟨U,rfl,E⟩;obtain ⟨d,e,f,rfl⟩:=((s.mono z)).form;refine md (sC 327 0 (.slice d e f) [.slice d e f] 0 E ⟨s.m.one,trivial⟩) ?_;rintro w0 f0 t;refine wln (sr (vx (le1 0 tv (t.on 0 rfl)) (vx (lnO 3 tv s.m) ?_)));obtain ⟨x0,a0,c1,M,n⟩:=t.frz 1 rfl (s.mono (z.trans f0));refine WL.gh a0 ?_;obtain ⟨y0,b0,g0,N,q⟩:=Own.frzB 0 M rfl;refine WL.gh b0 ?_;have P:=N.sD 2 [1];refine va (.func (.func 275) #[] #[Q U,Q b1]) (bn H fun a d0 H=>cl (nI P (h.length:Int) h j q n.m (mm m3) d0) ?_);rintro v40 X h0 ⟨R,rfl⟩;refine va (I a) (wln (W.seq (bn H fun A x H=>W.join (Jn X fun c l=>Own c G (es false qJ (.slice d e f) 329 u8 h :: F)∧l= [(2,B A)]) ?_ ?_)))
 ·clear H;refine rD [] (Kp G0 []) R ?_;intro p i0 u;have e1:Kp G0 [] p:=Kp.nil0;refine ta 0 (I a) (tx 1 (fun i b=>l1 tv ((mm q) 0 _ rfl)) (tx 2 (fun i b=>ln 3 tv n.m) (ta 3 (B (decide (a < (h.length:Int)))) ?_)));rcases bo (decide (a < (h.length:Int))) with g | g
  ·have o:=anT g x;refine bn o fun k y o=>AC.takeb 4 g rfl (by kernel_rfl) (by kernel_rfl) (fun i b=>(by kernel_rfl)) (tx 5 (fun i b=>l1 tv ((mm q) 0 _ rfl)) (ta 6 (I a) ?_));obtain ⟨s0,e0,k0⟩:=Sl.at (n.mono (g0.trans (h0.trans i0))) (bz y);obtain rfl:=e0;refine tx 7 (fun i b=>ix tv n.m y) (ta 8 (Qo (sb (.slice d e f)) (so (.slice d e f)+a.toNat * 2)) (tx 9 (fun i b=>l1 mf ((mm k0) 0 _ rfl)) (tx 10 (fun i b=>l1 mf ((mm m3) 0 _ rfl)) (ta 11 (B (decide (k.1≤j))) ?_))));obtain rfl:=si o;exact ta 12 (B (decide (k.1≤j))) (ta 13 (B (decide (k.1≤j))) (dn (nrm (jn p ⟨u,rfl⟩))))
  obtain rfl:=anF g x;exact AC.takeb 4 g rfl (by kernel_rfl) (by kernel_rfl) (fun i b=>(by kernel_rfl)) (tp 5 (tp 6 (tp 7 (tp 8 (tp 9 (tp 10 (tp 11 (ta 12 (B false) (ta 13 (B false) (dn (nrm (jn p ⟨u,rfl⟩))))))))))))
 rintro e_ w_ ⟨Z,z0,_,rfl,d1,rfl,S,rfl⟩;refine nrm (W.ret ?_);obtain rfl:=si H;have T:=S.sD 1 [];exact r1 (qq Z ⟨T,rfl⟩)
def mM (p0:Int) (q0_0:List (Int×Int×Int)) (q1_0:Int):Option (Bool):=
 (idx q0_0 p0).bind fun a=>
 some (decide (a.2.1≥(w64 q1_0)))
theorem yZ {d:Nat} {e:Nat} (o:Own c0 G F) (b:Int) (q0_0:List (Int×Int×Int)) (q1_0:Int) {r:Bool} (s:∀j u,([v2]:List Value)[j]? = some u→Im c0 d (0+j) u) (k:Sl iu c0 v2 q0_0) (t:∀j u,([J q1_0]:List Value)[j]? = some u→Im c0 e (0+j) u) (H:mM b q0_0 q1_0=some r): Calls prog 277 #[I b,Q d,Q e] c0.w (aT c0 fun c v=>Own c G (F)∧v=B r):=by
 unfold mM at H;refine en func277 rfl rfl (sr (va (B false) (wln (W.seq (rD [] (Kp G0 []) o ?_)))));intro h q p;have y:Kp G0 [] h:=Kp.nil0;refine tx 0 (fun g a=>l1 iv ((mm s) 0 _ rfl)) (ta 1 (I b) (bn H fun f l H=>?_));obtain ⟨x,i,n⟩:=Sl.at (k.mono q) (bz l);obtain rfl:=i;refine tx 2 (fun g a=>ix iv k.m l) (ta 3 (Qo (sb v2) (so v2+b.toNat * 3+1)) (tx 4 (fun g a=>l1 u_3 ((mm n) 1 _ rfl)) (tx 5 (fun g a=>l1 mf ((mm t) 0 _ rfl)) (ta 6 (I (w64 q1_0)) (ta 7 (B (decide (f.2.1≥(w64 q1_0)))) (ta 8 (B (decide (f.2.1≥(w64 q1_0)))) (dn (nrm (W.ret ?_)))))))));obtain rfl:=si H;exact r1 (qq h ⟨p,rfl⟩)
def kU:List (Int×Int×Int):=[(768,879,3),(1155,1159,3),(1425,1469,3),(1552,1562,3),(1611,1631,3),(2325,2361,1),(2364,2364,3),(2381,2381,2),(2385,2388,3),(2392,2399,1),(2424,2431,1),(2453,2472,1),(2474,2480,1),(2482,2482,1),(2486,2489,1),(2492,2492,3),(2509,2509,2),(2524,2525,1),(2527,2527,1),(2544,2545,1),(2709,2728,1),(2730,2736,1),(2738,2739,1),(2741,2745,1),(2748,2748,3),(2765,2765,2),(2809,2809,1),(2837,2856,1),(2858,2864,1),(2866,2867,1),(2869,2873,1),(2876,2876,3),(2893,2893,2),(2908,2909,1),(2911,2911,1),(2929,2929,1),(3093,3112,1),(3114,3129,1),(3132,3132,3),(3149,3149,2),(3160,3162,1),(3349,3386,1),(3405,3405,2),(6832,6845,3),(7616,7679,3),(8205,8205,3),(8400,8412,3),(12330,12335,3),(12441,12442,3),(65056,65071,3)]
def lH:Option (List (Int×Int×Int)):=
 some kU
theorem xu (d:Own c0 G F) {r:List (Int×Int×Int)} (H:lH=some r): Calls prog 276 #[] c0.w (aT c0 fun c v=>∃a b,Own c G (es true iu a 326 b r :: F)∧v=a∧OA iu c a b r):=by
 unfold lH at H;refine en func276 rfl rfl (sr (va (Y) (wln (sr (va (aF 768 879 3) (va (aF 1155 1159 3) (va (aF 1425 1469 3) (va (aF 1552 1562 3) (va (aF 1611 1631 3) (va (aF 2325 2361 1) (va (aF 2364 2364 3) (va (aF 2381 2381 2) (va (aF 2385 2388 3) (va (aF 2392 2399 1) (va (aF 2424 2431 1) (va (aF 2453 2472 1) (va (aF 2474 2480 1) (va (aF 2482 2482 1) (va (aF 2486 2489 1) (va (aF 2492 2492 3) (va (aF 2509 2509 2) (va (aF 2524 2525 1) (va (aF 2527 2527 1) (va (aF 2544 2545 1) (va (aF 2709 2728 1) (va (aF 2730 2736 1) (va (aF 2738 2739 1) (va (aF 2741 2745 1) (va (aF 2748 2748 3) (va (aF 2765 2765 2) (va (aF 2809 2809 1) (va (aF 2837 2856 1) (va (aF 2858 2864 1) (va (aF 2866 2867 1) (va (aF 2869 2873 1) (va (aF 2876 2876 3) (va (aF 2893 2893 2) (va (aF 2908 2909 1) (va (aF 2911 2911 1) (va (aF 2929 2929 1) (va (aF 3093 3112 1) (va (aF 3114 3129 1) (va (aF 3132 3132 3) (va (aF 3149 3149 2) (va (aF 3160 3162 1) (va (aF 3349 3386 1) (va (aF 3405 3405 2) (va (aF 6832 6845 3) (va (aF 7616 7679 3) (va (aF 8205 8205 3) (va (aF 8400 8412 3) (va (aF 12330 12335 3) (va (aF 12441 12442 3) (va (aF 65056 65071 3) (me (Own.sl (R:=iu) (E:=326) (ls:=kU.map (fun x=>[I x.1,I x.2.1,I x.2.2])) (vs:=(kU.map (fun x=>[I x.1,I x.2.1,I x.2.2])).flatten) (xs:=kU) true d (aX _) rfl (nQ.map _ (fun _=>rfl) _) (by kernel_rfl) (by kernel_rfl)) ?_)))))))))))))))))))))))))))))))))))))))))))))))))))))));rintro v5 f i ⟨h,e,g⟩;refine va (v5) (wln (W.ret ?_));obtain rfl:=si H;exact r1 (qq f ⟨v5,h,e,rfl,g⟩)
def fH (p0:Int) (p1_0_0:List (Int×Int×Int)) (p1_1_0:Int):Option (Int):=
 (cJ (σ:=Int×Int) (τ:=Int) ((p0 - 0).toNat+1) (fun a=>
 if (decide (a.1 < a.2))=true then
 (mM (w64 ((IntKind.u64.wrap (w64 (a.1+a.2))).fdiv (2 ^ 1))) p1_0_0 p1_1_0).bind fun b=>
 if (!b)=true then
 some (.inl ((w64 ((w64 ((IntKind.u64.wrap (w64 (a.1+a.2))).fdiv (2 ^ 1)))+1)),a.2))
 else
 some (.inl (a.1,(w64 ((IntKind.u64.wrap (w64 (a.1+a.2))).fdiv (2 ^ 1)))))
 else
 some (.inr (a.1))) (0,p0)).bind fun c=>
 some c
theorem nK {b1_0:Nat} {b1_1:Nat} (A:Own c0 G F) (b:Int) (p1_0_0:List (Int×Int×Int)) (p1_1_0:Int) {r:Int} (N:∀j u,([v2]:List Value)[j]? = some u→Im c0 b1_0 (0+j) u) (M:Sl iu c0 v2 p1_0_0) (P:∀j u,([J p1_1_0]:List Value)[j]? = some u→Im c0 b1_1 (0+j) u) (H:fH b p1_0_0 p1_1_0=some r): Calls prog 271 #[I b,.func (.func 277) #[] #[Q b1_0,Q b1_1]] c0.w (aT c0 fun c v=>Own c G (F)∧v=I r):=by
 unfold fH at H;refine en func271 rfl rfl (sr (va (I 0) (wln (sr (va (I b) (va (I 0) (va (I b) (wln (W.seq (W.block (bn H fun g y k=>lp y (fun a=>Jn c0 fun c l=>Own c G (F)∧l= [(1,.func (.func 277) #[] #[Q b1_0,Q b1_1]),(5,I a.1),(6,I a.2)]) (fun h ex e w=>ex= .exit 0∧(Jn c0 fun c l=>Own c G (F)∧l= [(5,I h)]) e w) ?_ ?_ ?_)))))))))))
 ·clear k y;intro a X q z H;revert q z;rintro E R ⟨D,Z,_,rfl,l7,rfl,o,rfl⟩;refine W.seq (sr (va (I a.1) (va (I a.2) (va (B (decide (a.1 < a.2))) (wln (cn H (fun s H=>?_) (fun s H=>?_)))))))
  ·refine W.skip (nrm (W.block (sr (va (I a.1) (va (I a.2) (va (I (w64 (a.1+a.2))) (va (.int .u64 (IntKind.u64.wrap (w64 (a.1+a.2)))) (va (.int .u64 ((IntKind.u64.wrap (w64 (a.1+a.2))).fdiv (2 ^ 1))) (vv (I (w64 ((IntKind.u64.wrap (w64 (a.1+a.2))).fdiv (2 ^ 1)))) (wln (sr (va (.func (.func 277) #[] #[Q b1_0,Q b1_1]) (va (I (w64 ((IntKind.u64.wrap (w64 (a.1+a.2))).fdiv (2 ^ 1)))) (bn H fun i t H=>cl (yZ o (w64 ((IntKind.u64.wrap (w64 (a.1+a.2))).fdiv (2 ^ 1))) p1_0_0 p1_1_0 (mm N) M.m (mm P) t) ?_))))))))))))));rintro v20 f T ⟨d,rfl⟩;refine va (B (!i)) (wln (cn H (fun x H=>?_) (fun x H=>?_)))
   ·refine W.region (va (I (w64 ((IntKind.u64.wrap (w64 (a.1+a.2))).fdiv (2 ^ 1)))) (vv (I (w64 ((w64 ((IntKind.u64.wrap (w64 (a.1+a.2))).fdiv (2 ^ 1)))+1))) (WL.nil (bkn ?_))));obtain rfl:=si H;exact ⟨_,rfl,jn f ⟨d,rfl⟩⟩
   refine W.region (vv (I (w64 ((IntKind.u64.wrap (w64 (a.1+a.2))).fdiv (2 ^ 1)))) (WL.nil (bkn ?_)));obtain rfl:=si H;exact ⟨_,rfl,jn f ⟨d,rfl⟩⟩
  refine W.exit (thx ?_);obtain rfl:=si H;exact ⟨_,rfl,rfl,jn D ⟨o,rfl⟩⟩
 ·exact jn c0 ⟨A,rfl⟩
 rintro _ E R ⟨rfl,p,S,_,rfl,U,rfl,n,rfl⟩;refine bke (nrm (sr (vv (I g) (wln (W.ret ?_)))));obtain rfl:=si k;exact r1 (qq p ⟨n,rfl⟩)
def ox (p0:Int):Option (Int):=
 (lH).bind fun a=>
 (fH (a.length:Int) a p0).bind fun b=>
 (orE (b==(a.length:Int)) ((idx a b).bind fun d=>
 some (decide (d.1 > (w64 p0))))).bind fun c=>
 if c=true then
 some 0
 else
 (idx a b).bind fun e=>
 some e.2.2
theorem B2 (O0:Own c0 G F) (k:Int) {r:Int} (H:ox k=some r): Calls prog 229 #[J k] c0.w (aT c0 fun c v=>Own c G (F)∧v=I r):=by
 unfold ox at H;refine en func229 rfl rfl (sr (me (bx 21 [J k] O0) ?_));rintro v5 c4 l4 ⟨b1,rfl,O2,m3⟩;refine va (I 0) (wln (sr (bn H fun i h6 H=>cl (xu O2 h6) ?_)));rintro v7 d1 j1 ⟨_,u8,T,rfl,s⟩;refine me (al 323 [Y] T) ?_;rintro v19 e1 M ⟨y,rfl,U⟩;obtain ⟨b,d,e,rfl⟩:=((s.mono M)).form;refine md (sC 323 0 (.slice b d e) [.slice b d e] 0 U ⟨s.m.one,trivial⟩) ?_;rintro f1 m0 t;refine wln (sr (vx (le1 0 iv (t.on 0 rfl)) (vx (lnO 3 iv s.m) ?_)));obtain ⟨g1,g0,k1,X,g⟩:=t.frz 1 rfl (s.mono (M.trans m0));refine WL.gh g0 ?_;obtain ⟨h1,h0,N,Z,n⟩:=Own.frzB 0 X rfl;refine WL.gh h0 ?_;have a0:=Z.sD 2 [1];refine va (.func (.func 277) #[] #[Q y,Q b1]) (bn H fun a i0 H=>cl (nK a0 (i.length:Int) i k n g.m (mm m3) i0) ?_);rintro v40 f0 P ⟨b0,rfl⟩;refine va (I a) (wln (W.seq (W.seq (bn H fun R A H=>W.join (Jn f0 fun c l=>Own c G (es false iu (.slice b d e) 326 u8 i :: F)∧l= [(3,Q y),(4,I a),(23,B R)]) ?_ ?_))))
 ·clear H;refine rD [] (Kp G0 []) b0 ?_;intro p o0 u;have m1:Kp G0 [] p:=Kp.nil0;refine ta 0 (I a) (tx 1 (fun j f=>l1 iv ((mm n) 0 _ rfl)) (tx 2 (fun j f=>ln 3 iv g.m) (ta 3 (B (a==(i.length:Int))) ?_)));rcases bo (a==(i.length:Int)) with h | h
  ·obtain rfl:=orT h A;exact AC.takeb 4 h rfl (by kernel_rfl) (by kernel_rfl) (fun j f=>(by kernel_rfl)) (tp 5 (tp 6 (tp 7 (tp 8 (tp 9 (tp 10 (tp 11 (tp 12 (ta 13 (B true) (dn (nrm (jn p ⟨u,rfl⟩))))))))))))
  have o:=orF h A;refine bn o fun q D o=>AC.takeb 4 h rfl (by kernel_rfl) (by kernel_rfl) (fun j f=>(by kernel_rfl)) (tx 5 (fun j f=>l1 iv ((mm n) 0 _ rfl)) (ta 6 (I a) ?_));obtain ⟨z0,j0,t0⟩:=Sl.at (g.mono (N.trans (P.trans o0))) (bz D);obtain rfl:=j0;refine tx 7 (fun j f=>ix iv g.m D) (ta 8 (Qo (sb (.slice b d e)) (so (.slice b d e)+a.toNat * 3)) (tx 9 (fun j f=>l1 u_3 ((mm t0) 0 _ rfl)) (tx 10 (fun j f=>l1 mf ((mm m3) 0 _ rfl)) (ta 11 (I (w64 k)) (ta 12 (B (decide (q.1 > (w64 k)))) ?_)))));obtain rfl:=si o;exact ta 13 (B (decide (q.1 > (w64 k)))) (dn (nrm (jn p ⟨u,rfl⟩)))
 rintro e_ w_ ⟨z,i1,_,rfl,q0,rfl,x,rfl⟩;refine nrm (cn H (fun k0 H=>?_) (fun k0 H=>?_))
 ·refine sr (va (I 0) (wln (W.ret (thr ?_))));obtain rfl:=si H;have d0:=x.sD 1 [];exact r1 (qq z ⟨d0,rfl⟩)
 refine W.skip (nrm (sr (vx (l1 iv ((mm n) 0 _ rfl)) (va (I a) (bn H fun S E H=>?_)))));obtain ⟨a1,l0,u0⟩:=Sl.at (g.mono (N.trans (P.trans q0))) (bz E);obtain rfl:=l0;refine vx (ix iv g.m E) (va (Qo (sb (.slice b d e)) (so (.slice b d e)+a.toNat * 3+2)) (vx (l1 u_3 (u0 2 _ rfl)) (va (I S.2.2) (wln (W.ret ?_)))));obtain rfl:=si H;have e0:=x.sD 1 [];exact r1 (qq z ⟨e0,rfl⟩)
def mK (p0:Int) (q0_0:List (Int×Int×Int)) (q1_0:Int):Option (Bool):=
 (idx q0_0 p0).bind fun a=>
 some (decide (a.2.1≥(w64 q1_0)))
theorem yX {d:Nat} {e:Nat} (o:Own c0 G F) (b:Int) (q0_0:List (Int×Int×Int)) (q1_0:Int) {r:Bool} (s:∀j u,([v2]:List Value)[j]? = some u→Im c0 d (0+j) u) (k:Sl iu c0 v2 q0_0) (t:∀j u,([J q1_0]:List Value)[j]? = some u→Im c0 e (0+j) u) (H:mK b q0_0 q1_0=some r): Calls prog 279 #[I b,Q d,Q e] c0.w (aT c0 fun c v=>Own c G (F)∧v=B r):=by
 unfold mK at H;refine en func279 rfl rfl (sr (va (B false) (wln (W.seq (rD [] (Kp G0 []) o ?_)))));intro h q p;have y:Kp G0 [] h:=Kp.nil0;refine tx 0 (fun g a=>l1 iv ((mm s) 0 _ rfl)) (ta 1 (I b) (bn H fun f l H=>?_));obtain ⟨x,i,n⟩:=Sl.at (k.mono q) (bz l);obtain rfl:=i;refine tx 2 (fun g a=>ix iv k.m l) (ta 3 (Qo (sb v2) (so v2+b.toNat * 3+1)) (tx 4 (fun g a=>l1 u_3 ((mm n) 1 _ rfl)) (tx 5 (fun g a=>l1 mf ((mm t) 0 _ rfl)) (ta 6 (I (w64 q1_0)) (ta 7 (B (decide (f.2.1≥(w64 q1_0)))) (ta 8 (B (decide (f.2.1≥(w64 q1_0)))) (dn (nrm (W.ret ?_)))))))));obtain rfl:=si H;exact r1 (qq h ⟨p,rfl⟩)
def ko:List (Int×Int×Int):=[(4352,4447,1),(8361,8361,3),(8986,8987,1),(9001,9002,1),(9193,9196,1),(9200,9200,1),(9203,9203,1),(9725,9726,1),(9748,9749,1),(9800,9811,1),(9855,9855,1),(9875,9875,1),(9889,9889,1),(9898,9899,1),(9917,9918,1),(9924,9925,1),(9934,9934,1),(9940,9940,1),(9962,9962,1),(9970,9971,1),(9973,9973,1),(9978,9978,1),(9981,9981,1),(9989,9989,1),(9994,9995,1),(10024,10024,1),(10060,10060,1),(10062,10062,1),(10067,10069,1),(10071,10071,1),(10133,10135,1),(10160,10160,1),(10175,10175,1),(11035,11036,1),(11088,11088,1),(11093,11093,1),(11904,11929,1),(11931,12019,1),(12032,12245,1),(12272,12287,1),(12288,12288,2),(12289,12350,1),(12353,12438,1),(12441,12543,1),(12549,12591,1),(12593,12686,1),(12688,12771,1),(12784,12830,1),(12832,12871,1),(12880,19903,1),(19968,42124,1),(42128,42182,1),(43360,43388,1),(44032,55203,1),(63744,64255,1),(65040,65049,1),(65072,65106,1),(65108,65126,1),(65128,65131,1),(65281,65376,2),(65377,65470,3),(65474,65479,3),(65482,65487,3),(65490,65495,3),(65498,65500,3),(65504,65510,2),(65512,65518,3),(94176,94180,1),(94208,100343,1),(100352,101589,1),(110592,110882,1),(126980,126980,1),(127183,127183,1),(127374,127374,1),(127377,127386,1),(127488,127490,1),(127504,127547,1),(127552,127560,1),(127568,127569,1),(127584,127589,1),(127744,127776,1),(127789,127797,1),(127799,127868,1),(127870,127891,1),(127904,127946,1),(127951,127955,1),(127968,127984,1),(127988,127988,1),(127992,128062,1),(128064,128064,1),(128066,128252,1),(128255,128317,1),(128331,128334,1),(128336,128359,1),(128378,128378,1),(128405,128406,1),(128420,128420,1),(128507,128591,1),(128640,128709,1),(128716,128716,1),(128720,128722,1),(128725,128727,1),(128732,128735,1),(128747,128748,1),(128756,128764,1),(128992,129003,1),(129008,129008,1),(129292,129338,1),(129340,129349,1),(129351,129535,1),(129648,129660,1),(129664,129672,1),(129680,129725,1),(129727,129733,1),(129742,129755,1),(129760,129768,1),(129776,129784,1),(131072,196605,1),(196608,262141,1)]
def lG:Option (List (Int×Int×Int)):=
 some ko
theorem xt (d:Own c0 G F) {r:List (Int×Int×Int)} (H:lG=some r): Calls prog 278 #[] c0.w (aT c0 fun c v=>∃a b,Own c G (es true iu a 326 b r :: F)∧v=a∧OA iu c a b r):=by
 unfold lG at H;refine en func278 rfl rfl (sr (va (Y) (wln (sr (va (aF 4352 4447 1) (va (aF 8361 8361 3) (va (aF 8986 8987 1) (va (aF 9001 9002 1) (va (aF 9193 9196 1) (va (aF 9200 9200 1) (va (aF 9203 9203 1) (va (aF 9725 9726 1) (va (aF 9748 9749 1) (va (aF 9800 9811 1) (va (aF 9855 9855 1) (va (aF 9875 9875 1) (va (aF 9889 9889 1) (va (aF 9898 9899 1) (va (aF 9917 9918 1) (va (aF 9924 9925 1) (va (aF 9934 9934 1) (va (aF 9940 9940 1) (va (aF 9962 9962 1) (va (aF 9970 9971 1) (va (aF 9973 9973 1) (va (aF 9978 9978 1) (va (aF 9981 9981 1) (va (aF 9989 9989 1) (va (aF 9994 9995 1) (va (aF 10024 10024 1) (va (aF 10060 10060 1) (va (aF 10062 10062 1) (va (aF 10067 10069 1) (va (aF 10071 10071 1) (va (aF 10133 10135 1) (va (aF 10160 10160 1) (va (aF 10175 10175 1) (va (aF 11035 11036 1) (va (aF 11088 11088 1) (va (aF 11093 11093 1) (va (aF 11904 11929 1) (va (aF 11931 12019 1) (va (aF 12032 12245 1) (va (aF 12272 12287 1) (va (aF 12288 12288 2) (va (aF 12289 12350 1) (va (aF 12353 12438 1) (va (aF 12441 12543 1) (va (aF 12549 12591 1) (va (aF 12593 12686 1) (va (aF 12688 12771 1) (va (aF 12784 12830 1) (va (aF 12832 12871 1) (va (aF 12880 19903 1) (va (aF 19968 42124 1) (va (aF 42128 42182 1) (va (aF 43360 43388 1) (va (aF 44032 55203 1) (va (aF 63744 64255 1) (va (aF 65040 65049 1) (va (aF 65072 65106 1) (va (aF 65108 65126 1) (va (aF 65128 65131 1) (va (aF 65281 65376 2) (va (aF 65377 65470 3) (va (aF 65474 65479 3) (va (aF 65482 65487 3) (va (aF 65490 65495 3) (va (aF 65498 65500 3) (va (aF 65504 65510 2) (va (aF 65512 65518 3) (va (aF 94176 94180 1) (va (aF 94208 100343 1) (va (aF 100352 101589 1) (va (aF 110592 110882 1) (va (aF 126980 126980 1) (va (aF 127183 127183 1) (va (aF 127374 127374 1) (va (aF 127377 127386 1) (va (aF 127488 127490 1) (va (aF 127504 127547 1) (va (aF 127552 127560 1) (va (aF 127568 127569 1) (va (aF 127584 127589 1) (va (aF 127744 127776 1) (va (aF 127789 127797 1) (va (aF 127799 127868 1) (va (aF 127870 127891 1) (va (aF 127904 127946 1) (va (aF 127951 127955 1) (va (aF 127968 127984 1) (va (aF 127988 127988 1) (va (aF 127992 128062 1) (va (aF 128064 128064 1) (va (aF 128066 128252 1) (va (aF 128255 128317 1) (va (aF 128331 128334 1) (va (aF 128336 128359 1) (va (aF 128378 128378 1) (va (aF 128405 128406 1) (va (aF 128420 128420 1) (va (aF 128507 128591 1) (va (aF 128640 128709 1) (va (aF 128716 128716 1) (va (aF 128720 128722 1) (va (aF 128725 128727 1) (va (aF 128732 128735 1) (va (aF 128747 128748 1) (va (aF 128756 128764 1) (va (aF 128992 129003 1) (va (aF 129008 129008 1) (va (aF 129292 129338 1) (va (aF 129340 129349 1) (va (aF 129351 129535 1) (va (aF 129648 129660 1) (va (aF 129664 129672 1) (va (aF 129680 129725 1) (va (aF 129727 129733 1) (va (aF 129742 129755 1) (va (aF 129760 129768 1) (va (aF 129776 129784 1) (va (aF 131072 196605 1) (va (aF 196608 262141 1) (me (Own.sl (R:=iu) (E:=326) (ls:=ko.map (fun x=>[I x.1,I x.2.1,I x.2.2])) (vs:=(ko.map (fun x=>[I x.1,I x.2.1,I x.2.2])).flatten) (xs:=ko) true d (aX _) rfl (nQ.map _ (fun _=>rfl) _) (by kernel_rfl) (by kernel_rfl)) ?_))))))))))))))))))))))))))))))))))))))))))))))))))))))))))))))))))))))))))))))))))))))))))))))))))))))))))))))))))))))))))));rintro v5 f i ⟨h,e,g⟩;refine va (v5) (wln (W.ret ?_));obtain rfl:=si H;exact r1 (qq f ⟨v5,h,e,rfl,g⟩)
def fG (p0:Int) (p1_0_0:List (Int×Int×Int)) (p1_1_0:Int):Option (Int):=
 (cJ (σ:=Int×Int) (τ:=Int) ((p0 - 0).toNat+1) (fun a=>
 if (decide (a.1 < a.2))=true then
 (mK (w64 ((IntKind.u64.wrap (w64 (a.1+a.2))).fdiv (2 ^ 1))) p1_0_0 p1_1_0).bind fun b=>
 if (!b)=true then
 some (.inl ((w64 ((w64 ((IntKind.u64.wrap (w64 (a.1+a.2))).fdiv (2 ^ 1)))+1)),a.2))
 else
 some (.inl (a.1,(w64 ((IntKind.u64.wrap (w64 (a.1+a.2))).fdiv (2 ^ 1)))))
 else
 some (.inr (a.1))) (0,p0)).bind fun c=>
 some c
theorem nJ {b1_0:Nat} {b1_1:Nat} (A:Own c0 G F) (b:Int) (p1_0_0:List (Int×Int×Int)) (p1_1_0:Int) {r:Int} (N:∀j u,([v2]:List Value)[j]? = some u→Im c0 b1_0 (0+j) u) (M:Sl iu c0 v2 p1_0_0) (P:∀j u,([J p1_1_0]:List Value)[j]? = some u→Im c0 b1_1 (0+j) u) (H:fG b p1_0_0 p1_1_0=some r): Calls prog 271 #[I b,.func (.func 279) #[] #[Q b1_0,Q b1_1]] c0.w (aT c0 fun c v=>Own c G (F)∧v=I r):=by
 unfold fG at H;refine en func271 rfl rfl (sr (va (I 0) (wln (sr (va (I b) (va (I 0) (va (I b) (wln (W.seq (W.block (bn H fun g y k=>lp y (fun a=>Jn c0 fun c l=>Own c G (F)∧l= [(1,.func (.func 279) #[] #[Q b1_0,Q b1_1]),(5,I a.1),(6,I a.2)]) (fun h ex e w=>ex= .exit 0∧(Jn c0 fun c l=>Own c G (F)∧l= [(5,I h)]) e w) ?_ ?_ ?_)))))))))))
 ·clear k y;intro a X q z H;revert q z;rintro E R ⟨D,Z,_,rfl,l7,rfl,o,rfl⟩;refine W.seq (sr (va (I a.1) (va (I a.2) (va (B (decide (a.1 < a.2))) (wln (cn H (fun s H=>?_) (fun s H=>?_)))))))
  ·refine W.skip (nrm (W.block (sr (va (I a.1) (va (I a.2) (va (I (w64 (a.1+a.2))) (va (.int .u64 (IntKind.u64.wrap (w64 (a.1+a.2)))) (va (.int .u64 ((IntKind.u64.wrap (w64 (a.1+a.2))).fdiv (2 ^ 1))) (vv (I (w64 ((IntKind.u64.wrap (w64 (a.1+a.2))).fdiv (2 ^ 1)))) (wln (sr (va (.func (.func 279) #[] #[Q b1_0,Q b1_1]) (va (I (w64 ((IntKind.u64.wrap (w64 (a.1+a.2))).fdiv (2 ^ 1)))) (bn H fun i t H=>cl (yX o (w64 ((IntKind.u64.wrap (w64 (a.1+a.2))).fdiv (2 ^ 1))) p1_0_0 p1_1_0 (mm N) M.m (mm P) t) ?_))))))))))))));rintro v20 f T ⟨d,rfl⟩;refine va (B (!i)) (wln (cn H (fun x H=>?_) (fun x H=>?_)))
   ·refine W.region (va (I (w64 ((IntKind.u64.wrap (w64 (a.1+a.2))).fdiv (2 ^ 1)))) (vv (I (w64 ((w64 ((IntKind.u64.wrap (w64 (a.1+a.2))).fdiv (2 ^ 1)))+1))) (WL.nil (bkn ?_))));obtain rfl:=si H;exact ⟨_,rfl,jn f ⟨d,rfl⟩⟩
   refine W.region (vv (I (w64 ((IntKind.u64.wrap (w64 (a.1+a.2))).fdiv (2 ^ 1)))) (WL.nil (bkn ?_)));obtain rfl:=si H;exact ⟨_,rfl,jn f ⟨d,rfl⟩⟩
  refine W.exit (thx ?_);obtain rfl:=si H;exact ⟨_,rfl,rfl,jn D ⟨o,rfl⟩⟩
 ·exact jn c0 ⟨A,rfl⟩
 rintro _ E R ⟨rfl,p,S,_,rfl,U,rfl,n,rfl⟩;refine bke (nrm (sr (vv (I g) (wln (W.ret ?_)))));obtain rfl:=si k;exact r1 (qq p ⟨n,rfl⟩)
def ou (p0:Int):Option (Int):=
 (lG).bind fun a=>
 (fG (a.length:Int) a p0).bind fun b=>
 (orE (b==(a.length:Int)) ((idx a b).bind fun d=>
 some (decide (d.1 > (w64 p0))))).bind fun c=>
 if c=true then
 some 0
 else
 (idx a b).bind fun e=>
 some e.2.2
theorem B0 (O0:Own c0 G F) (k:Int) {r:Int} (H:ou k=some r): Calls prog 230 #[J k] c0.w (aT c0 fun c v=>Own c G (F)∧v=I r):=by
 unfold ou at H;refine en func230 rfl rfl (sr (me (bx 21 [J k] O0) ?_));rintro v5 c4 l4 ⟨b1,rfl,O2,m3⟩;refine va (I 0) (wln (sr (bn H fun i h6 H=>cl (xt O2 h6) ?_)));rintro v7 d1 j1 ⟨_,u8,T,rfl,s⟩;refine me (al 323 [Y] T) ?_;rintro v19 e1 M ⟨y,rfl,U⟩;obtain ⟨b,d,e,rfl⟩:=((s.mono M)).form;refine md (sC 323 0 (.slice b d e) [.slice b d e] 0 U ⟨s.m.one,trivial⟩) ?_;rintro f1 m0 t;refine wln (sr (vx (le1 0 iv (t.on 0 rfl)) (vx (lnO 3 iv s.m) ?_)));obtain ⟨g1,g0,k1,X,g⟩:=t.frz 1 rfl (s.mono (M.trans m0));refine WL.gh g0 ?_;obtain ⟨h1,h0,N,Z,n⟩:=Own.frzB 0 X rfl;refine WL.gh h0 ?_;have a0:=Z.sD 2 [1];refine va (.func (.func 279) #[] #[Q y,Q b1]) (bn H fun a i0 H=>cl (nJ a0 (i.length:Int) i k n g.m (mm m3) i0) ?_);rintro v40 f0 P ⟨b0,rfl⟩;refine va (I a) (wln (W.seq (W.seq (bn H fun R A H=>W.join (Jn f0 fun c l=>Own c G (es false iu (.slice b d e) 326 u8 i :: F)∧l= [(3,Q y),(4,I a),(23,B R)]) ?_ ?_))))
 ·clear H;refine rD [] (Kp G0 []) b0 ?_;intro p o0 u;have m1:Kp G0 [] p:=Kp.nil0;refine ta 0 (I a) (tx 1 (fun j f=>l1 iv ((mm n) 0 _ rfl)) (tx 2 (fun j f=>ln 3 iv g.m) (ta 3 (B (a==(i.length:Int))) ?_)));rcases bo (a==(i.length:Int)) with h | h
  ·obtain rfl:=orT h A;exact AC.takeb 4 h rfl (by kernel_rfl) (by kernel_rfl) (fun j f=>(by kernel_rfl)) (tp 5 (tp 6 (tp 7 (tp 8 (tp 9 (tp 10 (tp 11 (tp 12 (ta 13 (B true) (dn (nrm (jn p ⟨u,rfl⟩))))))))))))
  have o:=orF h A;refine bn o fun q D o=>AC.takeb 4 h rfl (by kernel_rfl) (by kernel_rfl) (fun j f=>(by kernel_rfl)) (tx 5 (fun j f=>l1 iv ((mm n) 0 _ rfl)) (ta 6 (I a) ?_));obtain ⟨z0,j0,t0⟩:=Sl.at (g.mono (N.trans (P.trans o0))) (bz D);obtain rfl:=j0;refine tx 7 (fun j f=>ix iv g.m D) (ta 8 (Qo (sb (.slice b d e)) (so (.slice b d e)+a.toNat * 3)) (tx 9 (fun j f=>l1 u_3 ((mm t0) 0 _ rfl)) (tx 10 (fun j f=>l1 mf ((mm m3) 0 _ rfl)) (ta 11 (I (w64 k)) (ta 12 (B (decide (q.1 > (w64 k)))) ?_)))));obtain rfl:=si o;exact ta 13 (B (decide (q.1 > (w64 k)))) (dn (nrm (jn p ⟨u,rfl⟩)))
 rintro e_ w_ ⟨z,i1,_,rfl,q0,rfl,x,rfl⟩;refine nrm (cn H (fun k0 H=>?_) (fun k0 H=>?_))
 ·refine sr (va (I 0) (wln (W.ret (thr ?_))));obtain rfl:=si H;have d0:=x.sD 1 [];exact r1 (qq z ⟨d0,rfl⟩)
 refine W.skip (nrm (sr (vx (l1 iv ((mm n) 0 _ rfl)) (va (I a) (bn H fun S E H=>?_)))));obtain ⟨a1,l0,u0⟩:=Sl.at (g.mono (N.trans (P.trans q0))) (bz E);obtain rfl:=l0;refine vx (ix iv g.m E) (va (Qo (sb (.slice b d e)) (so (.slice b d e)+a.toNat * 3+2)) (vx (l1 u_3 (u0 2 _ rfl)) (va (I S.2.2) (wln (W.ret ?_)))));obtain rfl:=si H;have e0:=x.sD 1 [];exact r1 (qq z ⟨e0,rfl⟩)
def nc (p0:Int):Option (ao):=
 (qd p0).bind fun b=>
 (om p0).bind fun c=>
 (ox p0).bind fun d=>
 (ou p0).bind fun a=>
 some (⟨b,c,d,a⟩:ao)
theorem vk (p:Own c0 G F) (a:Int) {r:ao} (H:nc a=some r): Calls prog 174 #[J a] c0.w (aT c0 fun c v=>Own c G (F)∧v= .agg #[I r.Break,B r.Pict,I r.Conj,I r.East]):=by
 unfold nc at H;refine en func174 rfl rfl (sr (me (al 238 [I 0,B false,I 0,I 0] p) ?_));rintro v4 R S ⟨P,rfl,q⟩;refine wln (sr (va (J a) (bn H fun d t H=>cl (DD q a t) ?_)));rintro v11 u A ⟨s,rfl⟩;refine va (J a) (bn H fun e m H=>cl (BV s a m) ?_);rintro v18 x D ⟨i,rfl⟩;refine va (J a) (bn H fun f n H=>cl (B2 i a n) ?_);rintro v25 y E ⟨j,rfl⟩;refine va (J a) (bn H fun b o H=>cl (B0 j a o) ?_);rintro v32 z M ⟨k,rfl⟩;refine va (.agg #[I d,B e,I f,I b]) (md (sA 238 [I d,B e,I f,I b] 0 k ⟨rfl,rfl,rfl,rfl,trivial⟩) ?_);rintro h N g;refine wln (W.ret ?_);obtain rfl:=si H;have l:=g.sD 1 [];exact rV (c:=h) (vs:=[I d,B e,I f,I b]) rfl (by kernel_rfl) (by kernel_rfl) (by kernel_rfl) (g.on 0 rfl _ rfl).1 ⟨_,h,rfl,rfl,pt,l,rfl⟩
end Go.Proofs.YtclmdpamofdoiaaGreatDoor
