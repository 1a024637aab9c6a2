/- Parts of the proofs of RenderDraws, RenderAgain: the walk through the code, and plain Lean. No condition. -/
import Derived.WalkKit
import Derived.KernelRfl
import Derived.TacticsIn
import Derived.LoopNIn
import Derived.OrdersIn
import Derived.Laws.BytesString
import Derived.Laws.Concat
import Derived.Laws.Strings
import Derived.Laws.Strings2
import Derived.Laws.Strings3
import Derived.Laws.Slices
import Derived.Lib.ConvBytes
import Derived.Test.YtclmdpamofdoiaaGreatDoorProg
set_option linter.unusedVariables false
set_option linter.unusedSimpArgs false
abbrev dG:=@Go.Addr.add_lit
abbrev xO:=@Array.empty_append
abbrev D7:=@Array.ext'
abbrev cx:=@Array.getD_eq_getD_getElem?
abbrev Ha:=@Array.getElem?_eq_none
abbrev Hg:=@Array.getElem?_toList
abbrev wm:=@Array.length_toList
abbrev Hf:=@Array.mem_of_getElem?
abbrev Jj:=@Array.toList_map
abbrev Iw:=@BitVec.ofInt_natCast
abbrev I0:=@BitVec.toNat_ofNat
abbrev ly:=@Bool.and_eq_false_iff
abbrev aq:=@Bool.and_eq_true
abbrev D6:=@Bool.and_false
abbrev Fv:=@Bool.and_true
abbrev zl:=@Bool.eq_false_iff
abbrev cg:=@Bool.eq_iff_iff
abbrev gY:=@Bool.false_and
abbrev ak:=@Bool.false_eq_true
abbrev di:=@Bool.false_or
abbrev tf:=@Bool.not_eq_true
abbrev cw:=@Bool.not_eq_true'
abbrev fb:=@Bool.not_false
abbrev cm:=@Bool.not_true
abbrev jI:=@Bool.or_eq_false_iff
abbrev aC:=@Bool.or_eq_true
abbrev dh:=@Bool.true_and
abbrev pD:=@Go.ByteArray.toList_eq
abbrev rA:=@Go.DataW.trod_struct
abbrev D5:=@Eq.trans
abbrev FT:=@Go.WideShapes.add_plain
abbrev Ja:=@Iff.rfl
abbrev FS:=@Int.eq_ofNat_of_zero_le
abbrev D4:=@Int.fdiv_eq_ediv_of_nonneg
abbrev A9:=@Int.le_refl
abbrev IX:=@Int.natCast_nonneg
abbrev nI:=@Int.ofNat_lt
abbrev DZ:=@Int.tmod_eq_emod_of_nonneg
abbrev bT:=@Int.toNat_natCast
abbrev pC:=@Int.toNat_of_nonneg
abbrev Ag:=@Go.IntKind.wrap_i64
abbrev tc:=@List.all_eq_true
abbrev Ce:=@List.any_append
abbrev I9:=@List.any_eq_false
abbrev Af:=@List.any_eq_true
abbrev aF:=@List.append_assoc
abbrev G6:=@List.append_inj_right'
abbrev da:=@List.append_nil
abbrev Cd:=@List.cons.injEq
abbrev cZ:=@List.cons_append
abbrev Jh:=@List.cons_ne_nil
abbrev He:=@List.contains_iff_mem
abbrev gX:=@List.drop_append_of_le_length
abbrev de:=@List.drop_drop
abbrev qZ:=@List.drop_eq_getElem_cons
abbrev jl:=@List.drop_left
abbrev G5:=@List.drop_of_length_le
abbrev fX:=@List.drop_take
abbrev nH:=@List.drop_zero
abbrev ck:=@List.eq_nil_of_length_eq_zero
abbrev Jg:=@List.ext_getElem
abbrev be:=@List.ext_getElem?
abbrev IV:=@List.filter_append
abbrev wk:=@List.flatMap_append
abbrev ry:=@List.flatMap_cons
abbrev Jf:=@List.flatMap_nil
abbrev Iz:=@List.flatten_append
abbrev nG:=@List.flatten_cons
abbrev jH:=@List.foldl_append
abbrev Cc:=@List.foldl_cons
abbrev ao:=@List.getD_eq_getElem?_getD
abbrev ft:=@List.getElem?_append
abbrev aB:=@List.getElem?_append_left
abbrev aY:=@List.getElem?_append_right
abbrev fq:=@List.getElem?_cons_succ
abbrev tb:=@List.getElem?_cons_zero
abbrev bP:=@List.getElem?_drop
abbrev af:=@List.getElem?_eq_getElem
abbrev aA:=@List.getElem?_eq_none
abbrev bz:=@List.getElem?_map
abbrev dq:=@List.getElem?_range
abbrev Iq:=@List.getElem?_range'
abbrev iD:=@List.getElem?_replicate
abbrev lF:=@List.getElem?_set
abbrev aQ:=@List.getElem?_set_ne
abbrev bh:=@List.getElem?_set_self
abbrev aN:=@List.getElem?_take
abbrev bV:=@List.getElem?_toArray
abbrev G3:=@List.getElem_cons_succ
abbrev G1:=@List.getElem_cons_zero
abbrev I8:=@List.getElem_drop
abbrev dR:=@List.getElem_map
abbrev ax:=@List.getElem_mem
abbrev xN:=@List.getElem_range
abbrev iT:=@List.getElem_replicate
abbrev Je:=@List.getElem_set
abbrev I7:=@List.isEmpty_cons
abbrev av:=@List.length_append
abbrev aI:=@List.length_cons
abbrev bm:=@List.length_drop
abbrev nS:=@List.length_filter_le
abbrev cM:=@List.length_map
abbrev bd:=@List.length_nil
abbrev ru:=@List.length_range
abbrev lx:=@List.length_replicate
abbrev cp:=@List.length_set
abbrev Hc:=@List.length_singleton
abbrev az:=@List.length_take
abbrev bO:=@List.map_append
abbrev cX:=@List.map_congr_left
abbrev rP:=@List.map_cons
abbrev Jo:=@List.map_const'
abbrev GZ:=@List.map_map
abbrev qH:=@List.map_singleton
abbrev pv:=@List.mem_append
abbrev ew:=@List.mem_append_left
abbrev ur:=@List.mem_append_right
abbrev gJ:=@List.mem_cons
abbrev oU:=@List.mem_cons_of_mem
abbrev xM:=@List.mem_cons_self
abbrev vM:=@List.mem_of_getElem?
abbrev jG:=@List.mem_of_mem_drop
abbrev jF:=@List.mem_of_mem_take
abbrev D8:=@List.mem_or_eq_of_mem_set
abbrev zk:=@List.mem_range'_1
abbrev bN:=@List.nil_append
abbrev I6:=@List.nodup_range'
abbrev eE:=@List.not_mem_nil
abbrev IU:=@List.range'_concat
abbrev lf:=@List.range_succ
abbrev Ip:=@List.replicate_succ'
abbrev I5:=@List.reverse_cons
abbrev Io:=@List.reverse_reverse
abbrev nR:=@List.set_append_right
abbrev qG:=@List.set_cons_zero
abbrev uq:=@List.set_getElem_self
abbrev un:=@List.singleton_append
abbrev rq:=@List.size_toArray
abbrev Ae:=@List.take_append
abbrev Hb:=@List.take_append_drop
abbrev dF:=@List.take_append_of_le_length
abbrev DX:=@List.take_left
abbrev bU:=@List.take_length
abbrev aH:=@List.take_of_length_le
abbrev Iy:=@List.take_succ_cons
abbrev aj:=@List.take_succ_eq_append_getElem
abbrev ku:=@List.take_take
abbrev fW:=@List.take_zero
abbrev xL:=@List.zip_cons_cons
abbrev rO:=@Nat.add_assoc
abbrev eu:=@Nat.add_mul
abbrev xK:=@Nat.add_sub_cancel
abbrev qe:=@Nat.add_zero
abbrev nQ:=@Nat.ble_eq_true_of_le
abbrev nP:=@Nat.eq_of_beq_eq_true
abbrev kO:=@Nat.eq_zero_or_pos
abbrev bE:=@Nat.le_of_ble_eq_true
abbrev tP:=@Nat.le_of_lt
abbrev ay:=@Nat.le_refl
abbrev Il:=@Nat.le_succ
abbrev dd:=@Nat.le_trans
abbrev jk:=@Nat.lt_of_lt_of_le
abbrev aG:=@Nat.lt_or_ge
abbrev IR:=@Nat.lt_or_gt_of_ne
abbrev I4:=@Nat.lt_succ_of_lt
abbrev Jd:=@Nat.lt_succ_self
abbrev A8:=@Nat.min_def
abbrev cC:=@Nat.min_eq_left
abbrev Ad:=@Nat.mod_eq_of_lt
abbrev DW:=@Nat.mod_lt
abbrev gW:=@Nat.mul_le_mul_right
abbrev Ik:=@Nat.mul_one
abbrev uf:=@Nat.not_lt_zero
abbrev nb:=@Nat.one_mul
abbrev mj:=@Nat.sub_self
abbrev zj:=@Nat.sub_zero
abbrev aZ:=@Nat.succ_pos
abbrev gI:=@Nat.zero_add
abbrev dp:=@Nat.zero_le
abbrev qd:=@Nat.zero_mul
abbrev tO:=@Ne.symm
abbrev Fs:=@Go.Oper.semAt_eq
abbrev I3:=@Go.Oper.uponIn_value
abbrev I2:=@Option.bind_assoc
abbrev FM:=@Option.bind_eq_some_iff
abbrev Jc:=@Option.bind_some
abbrev Jb:=@Option.getD_some
abbrev bI:=@Option.isNone_some
abbrev Jm:=@Option.map_none
abbrev gi:=@Option.map_some
abbrev bi:=@Option.some.inj
abbrev aK:=@Option.some.injEq
abbrev fM:=@Prod.mk.injEq
abbrev nF:=@Go.Result.andThen_ok
abbrev dZ:=@Go.RowKit.Below.heap_alloc
abbrev kN:=@Go.Sem.run_bind
abbrev zi:=@Go.Sem.run_pure
abbrev rN:=@Sum.inl.injEq
abbrev mf:=@Go.World.cell?_of_block
abbrev IQ:=@Go.World.keptBut_mono
abbrev Jl:=@Go.World.var?_cell
abbrev oT:=@and_true
abbrev eO:=@beq_eq_false_iff_ne
abbrev aS:=@beq_iff_eq
abbrev kr:=@beq_self_eq_true
abbrev jQ:=@bne_iff_ne
abbrev yZ:=@bne_self_eq_false
abbrev GT:=@Go.callsIn_wide
abbrev iV:=@Go.cell_of_row
abbrev Dy:=@cond_false
abbrev mM:=@congrArg
abbrev du:=@decide_eq_false_iff_not
abbrev vm:=@decide_eq_true
abbrev an:=@decide_eq_true_eq
abbrev kJ:=@decide_true
abbrev vO:=@dif_neg
abbrev vN:=@dif_pos
abbrev IJ:=@Go.execOp_put
abbrev zO:=@ge_iff_le
abbrev HN:=@Go.getD_set_ne
abbrev AM:=@Go.grownCap_ge
abbrev qp:=@Go.grownCap_le_maxLen
abbrev Dc:=@Go.growslice_fits
abbrev aU:=@if_false
abbrev ab:=@if_neg
abbrev ae:=@if_pos
abbrev bw:=@if_true
abbrev wJ:=@ne_eq
abbrev yt:=@not_and
abbrev rd:=@not_false_eq_true
abbrev IF:=@not_or
abbrev IE:=@of_decide_eq_false
abbrev ns:=@of_decide_eq_true
abbrev nk:=@or_false
abbrev ID:=@Go.ready_mono
abbrev Jk:=@Go.run_append_grow
abbrev Bp:=@Go.run_append_room
abbrev I1:=@Go.run_bytesToString
abbrev Ix:=@Go.run_firstCells_some
abbrev yc:=@Go.run_storeCells_at
abbrev bL:=@Go.run_underlying
abbrev Am:=@Go.setRow_heap
abbrev Ga:=@Go.setRow_other
abbrev uG:=@true_and
abbrev mg:=@Go.wpIn_mono
abbrev uE:=@Go.wpListIn_plain
namespace Go.Lt
structure Fr where
 n:Nat
 df:List Deferred
 ro:Option Nat
instance:CoeOut Fr Nat:=⟨Fr.n⟩
def fen (r:Option Nat):Fence:={ Fence.wide with round:=r}
def act (n:Fr) (e:Nat→Value):Act:={ tmps:=((List.range n.n).map e).toArray,defers:=n.df}
def ev (n:Nat) (e:Nat→Value):Operand→Value
 | .tmp t=>cond (Nat.ble (t+1) n) (e t) undef
 | .const v=>v
 | .global g=> .pointer (some ⟨g,0,none⟩)
 | .func f=> .func (.func f) #[] #[]
def up (e:Nat→Value) (d:Nat) (v:Value):Nat→Value:=fun t=>cond (Nat.beq t d) v (e t)
def upO (e:Nat→Value):Option Nat→Value→(Nat→Value)
 | some d,v=>up e d v
 | none,_=>e
theorem mc (n:Fr) (e:Nat→Value):(act n e).eval=ev n e:=by
 funext x
 cases x with
 | tmp t=>
  simp only [Act.eval,act,ev];by_cases h:t < n.n
  ·have:Nat.ble (t+1) n.n=true:=nQ h;simp [h,this]
  ·have:Nat.ble (t+1) n.n=false:=by
    cases hb:Nat.ble (t+1) n.n with
    | false=>rfl
    | true=>exact absurd (bE hb) h
   simp [h,this]
 | const v=>rfl
 | global g=>rfl
 | func f=>rfl
theorem pu (n:Fr) (e:Nat→Value) (d:Option Nat) (v:Value):(act n e).put d v=act n (upO e d v):=by
 cases d with
 | none=>rfl
 | some d=>
  simp only [Act.put,act,upO]
  congr 1
  apply Array.ext
  ·simp
  ·intro i h1 h2;simp only [rq,cM,ru,Array.size_setIfInBounds] at h1 h2;by_cases hi:d=i
   ·subst hi; simp [up]
   ·have:Nat.beq i d=false:=by
     cases hb:Nat.beq i d with
     | false=>rfl
     | true=>exact absurd (nP hb).symm hi
    simp [up,hi,this]
def Hk:Exit→Prop
 | .panic _=>False
 | .outgrown=>False
 | _=>True
def yx (n:Fr) (Q:Exit→(Nat→Value)→World→Prop):Exit→Act→World→Prop:=fun x a w=>Hk x∧∃e,a=act n e∧Q x e w
def W (P:Program) (n:Fr) (c:Code) (Q:Exit→(Nat→Value)→World→Prop) (e:Nat→Value) (w:World):Prop:=c.wpIn (fen n.ro) 0 P (yx n Q) (act n e) w
def qg (K:(Nat→Value)→World→Prop) (Q:Exit→(Nat→Value)→World→Prop):Exit→(Nat→Value)→World→Prop
 | .normal,e,w=>K e w
 | x,e,w=>Q x e w
def mu (id:Nat) (Q:Exit→(Nat→Value)→World→Prop):Exit→(Nat→Value)→World→Prop
 | .exit i,e,w=>cond (Nat.beq i id) (Q .normal e w) (Q (.exit i) e w)
 | x,e,w=>Q x e w
section
variable {P:Program} {n:Fr} {Q Q':Exit→(Nat→Value)→World→Prop} {e:Nat→Value} {w:World} {a b:Code}
theorem W.mono (h:W P n a Q e w) (hq:∀x e w,Q x e w→Q' x e w):W P n a Q' e w:=
 mg h fun x _ w ⟨ht,e,ha,hQ⟩=>⟨ht,e,ha,hq x e w hQ⟩
theorem W.seq (h:W P n a (qg (W P n b Q) Q) e w):W P n (a.seq b) Q e w:=
 wpIn_seq (mg h fun x a' w' ⟨ht,e',ha,hQ⟩=>by
  subst ha
  cases x with
  | normal=>exact hQ
  | _=>exact ⟨ht,e',rfl,hQ⟩)
theorem W.seqJ (J:(Nat→Value)→World→Prop) (h:W P n a (qg J Q) e w) (hJ:∀e w,J e w→W P n b Q e w):W P n (a.seq b) Q e w:=
 W.seq (W.mono h fun x e w hx=>by cases x <;> first | exact hJ _ _ hx | exact hx)
theorem W.skip (h:Q .normal e w):W P n .skip Q e w:=wpIn_skip ⟨trivial,e,rfl,h⟩
theorem W.ret (h:Q .ret e w):W P n .ret Q e w:=wpIn_ret ⟨trivial,e,rfl,h⟩
theorem W.exit {id:Nat} (h:Q (.exit id) e w):W P n (.exit id) Q e w:=wpIn_exit ⟨trivial,e,rfl,h⟩
theorem W.block {id:Nat} (h:W P n a (mu id Q) e w):W P n (.block id a) Q e w:=
 wpIn_block (mg h fun x a' w' ⟨ht,e',ha,hQ⟩=>by
  subst ha
  cases x with
  | exit i=>
   simp only [Exit.inBlock];by_cases hi:i=id
   ·subst hi;rw [ae rfl];exact ⟨trivial,e',rfl,by simpa [mu] using hQ⟩
   ·rw [ab hi];have:Nat.beq i id=false:=by
     cases hb:Nat.beq i id with
     | false=>rfl
     | true=>exact absurd (nP hb) hi
    exact ⟨trivial,e',rfl,by simpa [mu,this] using hQ⟩
  | _=>exact ⟨ht,e',rfl,hQ⟩)
theorem W.cond {c:Operand} {t:Bool} (hc:ev n e c= .bool t) (ht:t=true→W P n a Q e w) (hf:t=false→W P n b Q e w):W P n (.cond c a b) Q e w:=
 wpIn_cond_split (by rw [mc]; exact hc) ht hf
def WL (P:Program) (ops:Array Oper) (n:Fr) (Q:Exit→(Nat→Value)→World→Prop) (l:List Oper) (e:Nat→Value) (w:World):Prop:=
 wpListIn (fen n.ro) 0 P ops (yx n Q) l (act n e) w
theorem W.region {id:Nat} {l:List Oper} (h:WL P l.toArray n Q l e w):W P n (.region id l.toArray false) Q e w:=wpIn_region_lit h
variable {ops:Array Oper} {o:Oper} {rest:List Oper}
theorem WL.nil (h:Q .normal e w):WL P ops n Q [] e w:=⟨trivial,e,rfl,h⟩
theorem qj {r:Option Nat} {ρ:Operand→Value} {w w':World} {x:Next} (h:(execOp ρ o).run P w= .ok x w') (hx:∀d,x≠ .defer d):(o.semAt r ρ).run P w= .ok x w':=by
 by_cases hd:∀c,o.op≠ .defer c
 ·rw [Fs r ρ o hd]; exact h
 ·obtain ⟨c,hc⟩:=Classical.not_forall.1 hd;have hc:=Classical.not_not.1 hc;unfold execOp at h;rw [hc] at h;simp only [kN,zi] at h
  cases hr:(resolve ρ c o.type).run P w with
  | ok d w1=>rw [hr] at h; simp only [Result.andThen,Result.ok.injEq] at h; exact absurd h.1.symm (hx d)
  | halt h1 w1=>rw [hr] at h; simp [Result.andThen] at h
theorem tY {r:Option Nat} {k:Nat} {f:FuncId} {args:Array Value} {w:World} {R:Ending→World→Prop} (h:Calls P f args w R):CallsIn (fen r) k P f args w R:=(GT (n:=k)).2 h
theorem CS {v:Value} {w':World} {K:Act→World→Prop} {Qa:Exit→Act→World→Prop} (hr:(execOp (ev n e) o).run P w= .ok (.value v) w') (h:K (act n (upO e o.dst v)) w'):o.wpIn (fen n.ro) 0 P (act n e) w K Qa:=by
 refine ⟨fun _ _=>trivial,?_⟩;rw [mc,qj hr (by simp),I3,pu];exact h
theorem FE {w':World} {K:Act→World→Prop} {Qa:Exit→Act→World→Prop} (hr:(execOp (ev n e) o).run P w= .ok .skip w') (h:K (act n (upO e o.dst undef)) w'):o.wpIn (fen n.ro) 0 P (act n e) w K Qa:=by
 refine ⟨fun _ _=>trivial,?_⟩;rw [mc,qj hr (by simp),Oper.uponIn_skip,pu];exact h
theorem AD {f:FuncId} {args:Array Value} {w':World} {K:Act→World→Prop} {Qa:Exit→Act→World→Prop} (hr:(execOp (ev n e) o).run P w= .ok (.enter f args) w')
  (hc:Calls P f args w' fun x w''=>∃v,x= .returned v∧K (act n (upO e o.dst v)) w''):o.wpIn (fen n.ro) 0 P (act n e) w K Qa:=by
 refine ⟨fun _ _=>trivial,?_⟩;rw [mc,qj hr (by simp),Oper.uponIn_enter];refine ⟨fun h=>(by cases h),(tY hc).mono ?_⟩;rintro x w'' ⟨v,rfl,h⟩;simp only [pu];exact h
theorem WL.val {v:Value} {w':World} (hg:o.guard=none) (hr:(execOp (ev n e) o).run P w= .ok (.value v) w') (h:WL P ops n Q rest (upO e o.dst v) w'):WL P ops n Q (o :: rest) e w:=
 uE hg fun K hK=>CS hr (hK _ _ h)
theorem WL.do_ {w':World} (hg:o.guard=none) (hr:(execOp (ev n e) o).run P w= .ok .skip w') (h:WL P ops n Q rest (upO e o.dst undef) w'):WL P ops n Q (o :: rest) e w:=
 uE hg fun K hK=>FE hr (hK _ _ h)
theorem WL.call {f:FuncId} {args:Array Value} {w':World} (hg:o.guard=none) (hr:(execOp (ev n e) o).run P w= .ok (.enter f args) w')
  (hc:Calls P f args w' fun x w''=>∃v,x= .returned v∧WL P ops n Q rest (upO e o.dst v) w''):WL P ops n Q (o :: rest) e w:=
 uE hg fun K hK=>AD hr (hc.mono fun x w'' ⟨v,hx,h⟩=>⟨v,hx,hK _ _ h⟩)
def yl (ops:Array Oper) (n:Nat) (e:Nat→Value) (j:Nat):Option Bool:=
 match (ops[j]?).bind Oper.dst with
 | some d=>match ev n e (.tmp d) with
  | .bool b=>some b
  | _=>none
 | none=>none
def iG (ops:Array Oper) (n:Nat) (e:Nat→Value) (o:Oper):Bool:=
 match o.guard with
 | none=>true
 | some (j,want)=>yl ops n e j==some want
theorem oq (ops:Array Oper) (n:Fr) (e:Nat→Value) (o:Oper) (h:∀d,(∃j:Nat,(ops[j]?).bind Oper.dst=some d)→d < n.n):
  Region.wanted o (yielded ops (act n e).tmps)=iG ops n e o:=by
 unfold Region.wanted iG
 cases hg:o.guard with
 | none=>rfl
 | some jw=>
  obtain ⟨j,want⟩:=jw;simp only
  congr 1
  unfold yielded yl
  cases hd:(ops[j]?).bind Oper.dst with
  | none=>rfl
  | some d=>
   have hdn:=h d ⟨j,hd⟩;have:Nat.ble (d+1) n.n=true:=nQ hdn;simp only [act,ev,Jc,this,cond_true];simp only [bV,bz,dq hdn,gi]
   cases e d <;> rfl
def fi (n:Nat):List Oper→Bool
 | []=>true
 | o :: l=>(match o.dst with | some d=>Nat.ble (d+1) n | none=>true) && fi n l
theorem kw {n:Nat} {l:List Oper} (h:fi n l=true) (d:Nat) (hd:∃j:Nat,(l.toArray[j]?).bind Oper.dst=some d):d < n:=by
 obtain ⟨j,hj⟩:=hd;simp only [bV] at hj
 induction l generalizing j with
 | nil=>simp at hj
 | cons o l ih=>
  simp only [fi,aq] at h
  cases j with
  | zero=>
   simp only [tb,Jc] at hj;rw [hj] at h;exact bE h.1
  | succ j=>exact ih h.2 j (by simpa using hj)
theorem WL.pass {l:List Oper} (hs:fi n l=true) (hw:iG l.toArray n e o=false) (h:WL P l.toArray n Q rest (upO e o.dst undef) w):WL P l.toArray n Q (o :: rest) e w:=by
 have hww:Region.wanted o (yielded l.toArray (act n e).tmps)=false:=by rw [oq _ _ _ _ (kw hs)]; exact hw
 unfold WL wpListIn;rw [ab (by rw [hww]; simp),pu];exact ⟨fun _ _=>trivial,h⟩
theorem WL.want {l:List Oper} (hs:fi n l=true) (hw:iG l.toArray n e o=true) (h:WL P l.toArray n Q ({ o with guard:=none} :: rest) e w):WL P l.toArray n Q (o :: rest) e w:=by
 have hww:Region.wanted o (yielded l.toArray (act n e).tmps)=true:=by rw [oq _ _ _ _ (kw hs)]; exact hw
 have hg:Region.wanted ({ o with guard:=none}:Oper) (yielded l.toArray (act n e).tmps)=true:=rfl;unfold WL wpListIn at h⊢;rw [ae hww];rw [ae hg] at h;exact h
theorem W.join (J:(Nat→Value)→World→Prop) (h:W P n a (qg J (fun _ _ _=>False)) e w) (hJ:∀e w,J e w→Q .normal e w):W P n a Q e w:=
 W.mono h fun x e w hx=>by cases x <;> first | exact hJ _ _ hx | exact hx.elim
theorem nrm {K:(Nat→Value)→World→Prop} (h:K e w):qg K Q .normal e w:=h
theorem thx {K:(Nat→Value)→World→Prop} {i:Nat} (h:Q (.exit i) e w):qg K Q (.exit i) e w:=h
theorem thr {K:(Nat→Value)→World→Prop} (h:Q .ret e w):qg K Q .ret e w:=h
theorem bkn {i:Nat} (h:Q .normal e w):mu i Q .normal e w:=h
theorem bkr {i:Nat} (h:Q .ret e w):mu i Q .ret e w:=h
theorem bke {i:Nat} (h:Q .normal e w):mu i Q (.exit i) e w:=by
 have:Nat.beq i i=true:=Nat.beq_refl i;simpa [mu,this] using h
theorem bko {i j:Nat} (hij:Nat.beq j i=false) (h:Q (.exit j) e w):mu i Q (.exit j) e w:=by simpa [mu,hij] using h
theorem WL.valb {t b:Bool} {w':World} (ht:t=b) (hg:o.guard=none) (hr:(execOp (ev n e) o).run P w= .ok (.value (.bool t)) w') (h:WL P ops n Q rest (upO e o.dst (.bool b)) w'):WL P ops n Q (o :: rest) e w:=by
 subst ht;exact WL.val hg hr h
theorem WL.val0 {v:Value} (hg:o.guard=none) (hr:(execOp (ev n e) o).run P w= .ok (.value v) w) (h:WL P ops n Q rest (upO e o.dst v) w):WL P ops n Q (o :: rest) e w:=WL.val hg hr h
theorem WL.valb0 {t b:Bool} (ht:t=b) (hg:o.guard=none) (hr:(execOp (ev n e) o).run P w= .ok (.value (.bool t)) w) (h:WL P ops n Q rest (upO e o.dst (.bool b)) w):WL P ops n Q (o :: rest) e w:=WL.valb ht hg hr h
def cv {σ τ:Type}:Nat→(σ→Option (σ ⊕ τ))→σ→Option τ
 | 0,_,_=>none
 | n+1,f,s=>(f s).bind fun x=>match x with
  | .inl s'=>cv n f s'
  | .inr t=>some t
def lpQ {σ τ:Type} (F:σ→(Nat→Value)→World→Prop) (Out:τ→Exit→(Nat→Value)→World→Prop) (x:σ ⊕ τ):Exit→(Nat→Value)→World→Prop
 | .normal,e,w=>∃s,x= .inl s∧F s e w
 | ex,e,w=>∃t,x= .inr t∧Out t ex e w
theorem W.loop {σ τ:Type} {step:σ→Option (σ ⊕ τ)} (F:σ→(Nat→Value)→World→Prop) (Out:τ→Exit→(Nat→Value)→World→Prop)
  (hb:∀s x e w,step s=some x→F s e w→W P n a (lpQ F Out x) e w) {fuel:Nat} {s:σ} {t:τ} (H:cv fuel step s=some t) (h0:F s e w)
  (hQ:∀x e w,Out t x e w→Q x e w):W P n (.loop a) Q e w:=by
 refine wpIn_loop_rounds fuel ?_
 induction fuel generalizing s e w with
 | zero=>cases H
 | succ k ih=>
  rw [roundsIn_succ];simp only [cv] at H
  cases hs:step s with
  | none=>rw [hs] at H; cases H
  | some x=>
   rw [hs] at H;refine mg (hb s x e w hs h0) ?_;rintro y a' w' ⟨ht,e',rfl,hq⟩
   cases x with
   | inl s'=>
    cases y with
    | normal=>
     obtain ⟨s1,h1,h2⟩:=hq;cases h1;exact ih H h2
    | _=>obtain ⟨t1,h1,_⟩:=hq; cases h1
   | inr t'=>
    have:t'=t:=by simpa using H
    subst this
    cases y with
    | normal=>obtain ⟨s1,h1,_⟩:=hq; cases h1
    | _=>obtain ⟨t1,h1,h2⟩:=hq; cases h1; exact ⟨ht,e',rfl,hQ _ _ _ h2⟩
def ar:List Value→Nat→Value
 | [],_=>undef
 | v :: _,0=>v
 | _ :: l,t+1=>ar l t
def nE (P:Program) (fn:Func) (n:Fr) (R:Ending→World→Prop):Exit→(Nat→Value)→World→Prop
 | .normal,e,w=>∃v,(results fn (act n e).tmps).run P w= .ok v w∧R (.returned v) w
 | .ret,e,w=>∃v,(results fn (act n e).tmps).run P w= .ok v w∧R (.returned v) w
 | _,_,_=>False
theorem DU (n:Nat) (l:List Value) (h:l.length≤n):act ⟨n,[],none⟩ (ar l)= { tmps:=l.toArray++Array.replicate (n - l.length) undef,defers:=[]}:=by
 unfold act
 congr 1
 apply D7;apply Jg
 ·simp; omega
 ·intro i h1 h2;simp only [dR,xN,Array.toList_append,Array.toList_replicate];have key:∀(l:List Value) (i:Nat) (h:i < l.length),ar l i=l[i]:=by
   intro l
   induction l with
   | nil=>intro i h; simp at h
   | cons v l ih=>
    intro i h
    cases i with
    | zero=>rfl
    | succ i=>exact ih i (by simpa using h)
  have key2:∀(l:List Value) (i:Nat) (h:l.length≤i),ar l i=undef:=by
   intro l
   induction l with
   | nil=>intro i h; rfl
   | cons v l ih=>
    intro i h
    cases i with
    | zero=>simp at h
    | succ i=>exact ih i (by simpa using h)
  by_cases hi:i < l.length
  ·rw [List.getElem_append_left hi]; exact key l i hi
  ·rw [List.getElem_append_right (by omega)]; rw [key2 l i (by omega)]; simp
theorem enter {f:FuncId} {fn:Func} {code:Code} {n:Nat} {l:List Value} {w:World} {R:Ending→World→Prop} (hf:P.funcs[f]? = some fn) (hb:fn.body=some code) (hn:fn.ntmps=n)
  (hl:Nat.ble l.length n=true) (h:W P ⟨n,[],none⟩ code (nE P fn ⟨n,[],none⟩ R) (ar l) w):Calls P f l.toArray w R:=by
 subst hn;have hl:=bE hl;refine (GT (n:=0)).1 (callsIn_of_wp hf hb trivial ?_);rw [rq,←DU _ l hl];refine mg h ?_;rintro x a w' ⟨_,e',rfl,hq⟩
 cases x <;> first | exact ⟨rfl,hq⟩ | exact hq.elim
theorem gE (n:Fr) (e:Nat→Value) (t:Nat):(act n e).tmps.getD t undef=ev n e (.tmp t):=by
 rw [←mc]; rfl
theorem IC {fn:Func} {R:Ending→World→Prop} (hr:fn.results= #[]) (h:R (.returned (.tuple #[])) w):nE P fn n R .ret e w:=
 ⟨_,results_none hr _ _ _,h⟩
theorem IK {fn:Func} {R:Ending→World→Prop} (hr:fn.results= #[]) (h:R (.returned (.tuple #[])) w):nE P fn n R .normal e w:=
 ⟨_,results_none hr _ _ _,h⟩
theorem zA {fn:Func} {R:Ending→World→Prop} {t:Nat} {v:Value} (hr:fn.results= #[.tmp t]) (hv:ev n e (.tmp t)=v) (h:R (.returned v) w):nE P fn n R .ret e w:=
 ⟨_,results_tmp hr _ _ _,by rw [gE,hv]; exact h⟩
theorem IB {fn:Func} {R:Ending→World→Prop} {t u:Nat} {v v':Value} (hr:fn.results= #[.tmp t,.tmp u]) (hv:ev n e (.tmp t)=v) (hu:ev n e (.tmp u)=v') (h:R (.returned (.tuple #[v,v'])) w):nE P fn n R .ret e w:=
 ⟨_,results_tmp2 hr _ _ _,by rw [gE,gE,hv,hu]; exact h⟩
def ups (e:Nat→Value):List (Nat×Value)→(Nat→Value)
 | []=>e
 | (t,v) :: l=>up (ups e l) t v
def vg (e:Nat→Value):List (Nat×Value)→Prop
 | []=>True
 | (t,v) :: l=>e t=v∧vg e l
theorem Ec (e:Nat→Value) {t:Nat} {v:Value} (h:e t=v):up e t v=e:=by
 funext i
 unfold up;by_cases hb:Nat.beq i t=true
 ·rw [hb,nP hb]; exact h.symm
 ·simp [hb]
theorem xT:∀{l:List (Nat×Value)} {e:Nat→Value},vg e l→e=ups e l
 | [],_,_=>rfl
 | (t,v) :: l,e,h=>by
  have:=xT (l:=l) h.2;rw [ups,←this];exact (Ec e h.1).symm
end
def w64 (n:Int):Int:=IntKind.i64.wrap n
def w32 (n:Int):Int:=IntKind.i32.wrap n
def bb (x y:Int):Int:=if y > x then y else x
def aO (x y:Int):Int:=if y < x then y else x
theorem bs {α β:Type} {x:Option α} {f:α→Option β} {r:β} (h:x.bind f=some r):∃a,x=some a∧f a=some r:=by
 cases x with
 | none=>cases h
 | some a=>exact ⟨a,rfl,h⟩
theorem it {α:Type} {b:Bool} {x y:Option α} {r:α} (hb:b=true) (h:(if b=true then x else y)=some r):x=some r:=by rw [ae hb] at h; exact h
theorem ie {α:Type} {b:Bool} {x y:Option α} {r:α} (hb:b=false) (h:(if b=true then x else y)=some r):y=some r:=by rw [ab (by simp [hb])] at h; exact h
def orE (t:Bool) (x:Option Bool):Option Bool:=if t=true then some true else x
def bD (t:Bool) (x:Option Bool):Option Bool:=if t=true then x else some false
theorem orT {t:Bool} {x:Option Bool} {d:Bool} (ht:t=true) (h:orE t x=some d):d=true:=by simp [orE,ht] at h; exact h
theorem orF {t:Bool} {x:Option Bool} {d:Bool} (ht:t=false) (h:orE t x=some d):x=some d:=by simpa [orE,ht] using h
theorem anT {t:Bool} {x:Option Bool} {d:Bool} (ht:t=true) (h:bD t x=some d):x=some d:=by simpa [bD,ht] using h
theorem anF {t:Bool} {x:Option Bool} {d:Bool} (ht:t=false) (h:bD t x=some d):d=false:=by simp [bD,ht] at h; exact h
end Go.Lt
namespace Go.Lt
structure Cx where
 w:World
 A:Nat→Nat→Prop
 t:Nat→Nat→Option Nat
structure Cx.le (c c':Cx):Prop where
 os:c'.w.os=c.w.os
 output:c'.w.output=c.w.output
 size:c.w.heap.size≤c'.w.heap.size
 cell:∀k o,k < c.w.heap.size→¬c.A k o→c'.w.cell? ⟨k,o,none⟩=c.w.cell? ⟨k,o,none⟩∧¬c'.A k o
 block:∀k,k < c.w.heap.size→(∀o,¬c.A k o)→c'.w.heap[k]? = c.w.heap[k]?
 frz:∀a,a.block < c.w.heap.size→¬c.A a.block a.off→c'.w.frozen? a=c.w.frozen? a
 t:∀g k b,c.t g k=some b→c'.t g k=some b
theorem Cx.le.refl (c:Cx):c.le c:=⟨rfl,rfl,ay _,fun _ _ _ h=>⟨rfl,h⟩,fun _ _ _=>rfl,fun _ _ _=>rfl,fun _ _ _ h=>h⟩
theorem Cx.le.trans {a b c:Cx} (h:a.le b) (k:b.le c):a.le c:=
 ⟨k.os.trans h.os,k.output.trans h.output,dd h.size k.size,fun i o hi hA=>by
  obtain ⟨h1,h2⟩:=h.cell i o hi hA;obtain ⟨k1,k2⟩:=k.cell i o (jk hi h.size) h2;exact ⟨k1.trans h1,k2⟩,fun i hi hA=>(k.block i (jk hi h.size) fun o=>(h.cell i o hi (hA o)).2).trans (h.block i hi hA),
  fun a ha hA=>(k.frz a (jk ha h.size) (h.cell _ _ ha hA).2).trans (h.frz a ha hA),fun g i b hb=>k.t g i b (h.t g i b hb)⟩
structure Cx.lw (c c':Cx):Prop where
 os:c'.w.os=c.w.os
 output:c'.w.output=c.w.output
 size:c.w.heap.size≤c'.w.heap.size
 cell:∀k o,k < c.w.heap.size→¬c.A k o→c'.w.cell? ⟨k,o,none⟩=c.w.cell? ⟨k,o,none⟩∧¬c'.A k o
 block:∀k vs T f,c.w.heap[k]? = some (.cells vs T f)→(∀o,¬c.A k o)→c'.w.heap[k]? = c.w.heap[k]?
 frz:∀a,a.block < c.w.heap.size→¬c.A a.block a.off→c'.w.frozen? a=c.w.frozen? a
 t:∀g k b,c.t g k=some b→c'.t g k=some b
theorem Cx.le.lw {c c':Cx} (h:c.le c'):c.lw c':=⟨h.os,h.output,h.size,h.cell,fun k _ _ _ hk hA=>h.block k (Array.getElem?_eq_some_iff.1 hk).1 hA,h.frz,h.t⟩
instance {c c':Cx}:Coe (c.le c') (c.lw c'):=⟨Cx.le.lw⟩
theorem Cx.lw.trans {a b c:Cx} (h:a.lw b) (k:b.lw c):a.lw c:=
 ⟨k.os.trans h.os,k.output.trans h.output,dd h.size k.size,fun i o hi hA=>by
  obtain ⟨h1,h2⟩:=h.cell i o hi hA;obtain ⟨k1,k2⟩:=k.cell i o (jk hi h.size) h2;exact ⟨k1.trans h1,k2⟩,fun i vs T f hi hA=>by
  have h1:=h.block i vs T f hi hA;exact (k.block i vs T f (h1.trans hi) fun o=>(h.cell i o (Array.getElem?_eq_some_iff.1 hi).1 (hA o)).2).trans h1,
  fun a ha hA=>(k.frz a (jk ha h.size) (h.cell _ _ ha hA).2).trans (h.frz a ha hA),fun g i b hb=>k.t g i b (h.t g i b hb)⟩
structure Cx.but (D:Nat→Prop) (c c':Cx):Prop where
 le:c.le c'
 t:c'.t=c.t
 same:∀k,k < c.w.heap.size→¬D k→c'.w.heap[k]? = c.w.heap[k]?∧∀o,c'.A k o↔c.A k o
def Gr (w w':World):Prop:=w.keptBut w' (fun _=>False)∧(∀a,a.block < w.heap.size→w'.frozen? a=w.frozen? a)∧w.heap.size≤w'.heap.size
theorem Gr.frame {w w':World} (h:Gr w w') (may:MemPlace→Prop):w.keptBut w' may:=IQ (fun _ f=>f.elim) h.1
theorem Cx.le.grown {w:World} {c':Cx} (h:Cx.le ⟨w,fun _ _=>False,fun _ _=>none⟩ c'):Gr w c'.w:=
 ⟨⟨h.os,h.output,fun i hi=>by
  rw [h.block i hi fun _=>id];have:=World.keptBut_refl w fun _=>False;exact this.2.2 i hi⟩,fun a ha=>h.frz a ha id,h.size⟩
structure Im (c:Cx) (b o:Nat) (v:Value):Prop where
 lt:b < c.w.heap.size
 nA:¬c.A b o
 cell:c.w.cell? ⟨b,o,none⟩=some v
theorem Im.lw {c c':Cx} {b o:Nat} {v:Value} (h:Im c b o v) (k:c.lw c'):Im c' b o v:=by
 obtain ⟨h1,h2⟩:=k.cell b o h.lt h.nA;exact ⟨jk h.lt k.size,h2,h1.trans h.cell⟩
theorem Im.mono {c c':Cx} {b o:Nat} {v:Value} (h:Im c b o v) (k:c.le c'):Im c' b o v:=h.lw k.lw
structure Rp (α:Type) where
 size:Nat
 cells:Cx→List Value→α→Prop
 len:∀{c l x},cells c l x→l.length=size
 one:∀{c l x},cells c l x→∀v∈l,v.oneCell'=true
 mono:∀{c c' l x},c.lw c'→cells c l x→cells c' l x
def RI (k:IntKind):Rp Int where
 size:=1
 cells:=fun _ l n=>l= [.int k n]
 len:=fun h=>by simp [h]
 one:=fun h v hv=>by rw [h] at hv; simp at hv; subst hv; rfl
 mono:=fun _ h=>h
def RB:Rp Bool where
 size:=1
 cells:=fun _ l n=>l= [.bool n]
 len:=fun h=>by simp [h]
 one:=fun h v hv=>by rw [h] at hv; simp at hv; subst hv; rfl
 mono:=fun _ h=>h
def RS:Rp ByteArray where
 size:=1
 cells:=fun _ l n=>l= [.string n]
 len:=fun h=>by simp [h]
 one:=fun h v hv=>by rw [h] at hv; simp at hv; subst hv; rfl
 mono:=fun _ h=>h
def Sl {α:Type} (R:Rp α) (c:Cx) (v:Value) (xs:List α):Prop:=
 ∃a cap,v= .slice a xs.length cap∧xs.length≤cap∧cap≤maxLen∧
  ∀i x,xs[i]? = some x→∃b off l,a=some ⟨b,off,none⟩∧R.cells c l x∧∀j u,l[j]? = some u→Im c b (off+i * R.size+j) u
theorem Sl.lw {α:Type} {R:Rp α} {c c':Cx} {v:Value} {xs:List α} (h:Sl R c v xs) (k:c.lw c'):Sl R c' v xs:=by
 obtain ⟨a,cap,h1,h2,h3,h4⟩:=h;refine ⟨a,cap,h1,h2,h3,fun i x hx=>?_⟩;obtain ⟨b,off,l,e,hl,hc⟩:=h4 i x hx;exact ⟨b,off,l,e,R.mono k hl,fun j u hu=>(hc j u hu).lw k⟩
theorem Sl.mono {α:Type} {R:Rp α} {c c':Cx} {v:Value} {xs:List α} (h:Sl R c v xs) (k:c.le c'):Sl R c' v xs:=h.lw k.lw
theorem Sl.one {α:Type} {R:Rp α} {c:Cx} {v:Value} {xs:List α} (h:Sl R c v xs):v.oneCell'=true:=by
 obtain ⟨a,cap,rfl,_⟩:=h; rfl
theorem Sl.nil {α:Type} (R:Rp α) (c:Cx) (a:Option Addr) (cap:Nat) (h:cap≤maxLen):Sl R c (.slice a 0 cap) []:=
 ⟨a,cap,rfl,dp _,h,fun i x hx=>by simp at hx⟩
theorem Sl.nl {α:Type} (R:Rp α) (c:Cx):Sl R c (.slice none 0 0) []:=Sl.nil R c none 0 (dp _)
def RL {α:Type} (R:Rp α):Rp (List α) where
 size:=1
 cells:=fun c l xs=>∃v,l= [v]∧Sl R c v xs
 len:=fun ⟨v,h,_⟩=>by simp [h]
 one:=fun ⟨v,h,hs⟩ u hu=>by rw [h] at hu; simp at hu; subst hu; exact hs.one
 mono:=fun k ⟨v,h,hs⟩=>⟨v,h,hs.lw k⟩
def Pt (g:Nat) (c:Cx) (v:Value):Option Nat→Prop
 | none=>v= .pointer none
 | some k=>∃b,v= .pointer (some ⟨b,0,none⟩)∧c.t g k=some b
theorem Pt.lw {g:Nat} {c c':Cx} {v:Value} {p:Option Nat} (h:Pt g c v p) (k:c.lw c'):Pt g c' v p:=by
 cases p with
 | none=>exact h
 | some p=>obtain ⟨b,h1,h2⟩:=h; exact ⟨b,h1,k.t _ _ _ h2⟩
theorem Pt.mono {g:Nat} {c c':Cx} {v:Value} {p:Option Nat} (h:Pt g c v p) (k:c.le c'):Pt g c' v p:=h.lw k.lw
theorem Pt.one {g:Nat} {c:Cx} {v:Value} {p:Option Nat} (h:Pt g c v p):v.oneCell'=true:=by
 cases p with
 | none=>obtain rfl:=h; rfl
 | some p=>obtain ⟨b,rfl,_⟩:=h; rfl
def RP (g:Nat):Rp (Option Nat) where
 size:=1
 cells:=fun c l p=>∃v,l= [v]∧Pt g c v p
 len:=fun ⟨v,h,_⟩=>by simp [h]
 one:=fun ⟨v,h,hs⟩ u hu=>by rw [h] at hu; simp at hu; subst hu; exact hs.one
 mono:=fun k ⟨v,h,hs⟩=>⟨v,h,hs.lw k⟩
theorem Pt.get {g:Nat} {c:Cx} {v:Value} {p:Option Nat} {k:Nat} (h:Pt g c v p) (hp:p=some k):∃b,v= .pointer (some ⟨b,0,none⟩)∧c.t g k=some b:=by subst hp; exact h
theorem Pt.get2 {g:Nat} {c:Cx} {b k:Nat} {p:Option Nat} (h:Pt g c (.pointer (some ⟨b,0,none⟩)) p) (hp:p=some k):c.t g k=some b:=by
 subst hp;obtain ⟨b',h1,h2⟩:=h;cases h1;exact h2
inductive Er where
 | nil
 | sent (g:Nat)
 | fault (i:Int) (e:Er)
structure Fz (c:Cx) (b:Nat):Prop where
 lt:b < c.w.heap.size
 nA:∀o,¬c.A b o
 blk:∃vs T,c.w.heap[b]? = some (.cells vs T (0,0))
theorem Fz.lw {c c':Cx} {b:Nat} (h:Fz c b) (k:c.lw c'):Fz c' b:=by
 obtain ⟨vs,T,hb⟩:=h.blk;exact ⟨jk h.lt k.size,fun o=>(k.cell b o h.lt (h.nA o)).2,vs,T,(k.block b _ _ _ hb h.nA).trans hb⟩
def RE (S T:TypeId) (c:Cx):Value→Er→Prop
 | v,.nil=>v= .nilIface
 | v,.sent g=>∃a,v= .iface S (.pointer (some a))∧Im c g 0 v∧Fz c a.block
 | v,.fault i e=>∃b u,v= .iface T (.pointer (some ⟨b,0,none⟩))∧Im c b 0 (.int .i64 i)∧Im c b 1 u∧RE S T c u e
theorem RE.lw {S T:TypeId} {c c':Cx} {v:Value} {e:Er} (h:RE S T c v e) (k:c.lw c'):RE S T c' v e:=by
 induction e generalizing v with
 | nil=>exact h
 | sent g=>obtain ⟨b,h,hi,hf⟩:=h; exact ⟨b,h,hi.lw k,hf.lw k⟩
 | fault i e ih=>obtain ⟨b,u,h,h1,h2,h3⟩:=h; exact ⟨b,u,h,h1.lw k,h2.lw k,ih h3⟩
theorem RE.mono {S T:TypeId} {c c':Cx} {v:Value} {e:Er} (h:RE S T c v e) (k:c.le c'):RE S T c' v e:=h.lw k.lw
theorem RE.one {S T:TypeId} {c:Cx} {v:Value} {e:Er} (h:RE S T c v e):v.oneCell'=true:=by
 cases e with
 | nil=>obtain rfl:=h; rfl
 | sent g=>obtain ⟨b,rfl,_⟩:=h; rfl
 | fault i e=>obtain ⟨b,u,rfl,_⟩:=h; rfl
theorem RE.im {S T:TypeId} {c:Cx} {v:Value} {g:Nat} (h:RE S T c v (.sent g)):Im c g 0 v:=by
 obtain ⟨b,_,h,_⟩:=h; exact h
def Er.isNil:Er→Bool
 | .nil=>true
 | _=>false
def sb:Value→Nat
 | .slice (some a) _ _=>a.block
 | _=>0
def so:Value→Nat
 | .slice (some a) _ _=>a.off
 | _=>0
theorem Sl.at {α:Type} {R:Rp α} {c:Cx} {v:Value} {xs:List α} (h:Sl R c v xs) {i:Nat} {x:α} (hx:xs[i]? = some x):
  ∃l,R.cells c l x∧∀j u,l[j]? = some u→Im c (sb v) (so v+i * R.size+j) u:=by
 obtain ⟨a,cap,rfl,_,_,h4⟩:=h;obtain ⟨b,off,l,rfl,hl,hc⟩:=h4 i x hx;exact ⟨l,hl,hc⟩
def idx {α:Type} (xs:List α) (i:Int):Option α:=if 0≤i then xs[i.toNat]? else none
def slc {α:Type} (xs:List α) (i j:Int):Option (List α):=if 0≤i∧i≤j∧j≤xs.length then some ((xs.drop i.toNat).take (j - i).toNat) else none
def far:Nat:=1099511627776
def app {α:Type} (xs ys:List α):Option (List α):=if xs.length+ys.length≤far then some (xs++ys) else none
def rep {α:Type} (n:Int) (x:α):Option (List α):=if 0≤n∧n≤far then some (List.replicate n.toNat x) else none
def nT {α:Type} (xs:List α) (i:Int) (x:α):Option (List α):=if 0≤i∧i < xs.length then some (xs.set i.toNat x) else none
theorem aR {α:Type} {xs:List α} {i:Int} {x:α} (h:idx xs i=some x):xs[i.toNat]? = some x:=by
 unfold idx at h;split at h
 ·exact h
 ·cases h
theorem tE {α:Type} {xs:List α} {i:Int} {x:α} (h:idx xs i=some x):0≤i∧i < xs.length:=by
 have:=aR h;unfold idx at h;split at h
 ·have:=(List.getElem?_eq_some_iff.1 this).1;omega
 ·cases h
structure En where
 v:Value
 T:TypeId
 vs:List Value
 lim:Nat
def blk:Value→Option Nat
 | .pointer (some a)=>some a.block
 | .slice (some a) _ _=>some a.block
 | _=>none
def En.on (e:En) (c:Cx):Prop:=∀b,blk e.v=some b→c.w.heap[b]? = some (.cells e.vs.toArray e.T (0,0))∧∀o,c.A b o↔e.lim≤o
def apart (e e':En):Prop:=∀b,blk e.v=some b→blk e'.v=some b→False
def uh:En:=⟨.nilIface,0,[],0⟩
abbrev Gm:=Nat→Nat→List En
def at_ (G:Gm) (F:List En):Nat ⊕ (Nat×Nat×Nat)→Option En
 | .inl k=>F[k]?
 | .inr (g,k,r)=>(G g k)[r]?
def ol {ι:Type} (c:Cx) (M:ι→Option En):Prop:=(∀i e,M i=some e→e.on c)∧∀i j e e',M i=some e→M j=some e'→i≠j→apart e e'
theorem En.on.lt {e:En} {c:Cx} {b:Nat} (h:e.on c) (hb:blk e.v=some b):b < c.w.heap.size:=(Array.getElem?_eq_some_iff.1 (h b hb).1).1
theorem En.on.keep {e:En} {c c':Cx} (h:e.on c) (k:∀b,blk e.v=some b→c'.w.heap[b]? = c.w.heap[b]?∧∀o,c'.A b o↔c.A b o):e.on c':=fun b hb=>
 ⟨(k b hb).1.trans (h b hb).1,fun o=>((k b hb).2 o).trans ((h b hb).2 o)⟩
theorem AJ (c:Cx):uh.on c:=fun b hb=>by cases hb
theorem vf (e:En):apart uh e:=fun b hb=>by cases hb
theorem vL (e:En):apart e uh:=fun b _ hb=>by cases hb
theorem ol.upd {ι:Type} {c c':Cx} {M M':ι→Option En} (h:ol c M) (i:ι) {D:Nat→Prop} (hb:c.but D c') (hD:∀b,D b→∃e,M i=some e∧blk e.v=some b) (hM:∀j,j≠i→M' j=M j)
  {e':En} (hi:M' i=some e') (hon:e'.on c') (hnew:∀b,blk e'.v=some b→(∃e,M i=some e∧blk e.v=some b)∨c.w.heap.size≤b):ol c' M':=by
 have key:∀j e,j≠i→M' j=some e→e.on c':=fun j e hj he=>by
  rw [hM j hj] at he;refine (h.1 j e he).keep fun b hbe=>hb.same b ((h.1 j e he).lt hbe) fun hd=>?_;obtain ⟨e2,h2,h3⟩:=hD b hd;exact h.2 j i e e2 he h2 hj b hbe h3
 have far:∀j e,j≠i→M' j=some e→apart e e':=fun j e hj he b h1 h2=>by
  rw [hM j hj] at he;rcases hnew b h2 with ⟨e2,h3,h4⟩ | h3
  ·exact h.2 j i e e2 he h3 hj b h1 h4
  ·exact absurd ((h.1 j e he).lt h1) (Nat.not_lt.2 h3)
 classical
 refine ⟨fun j e he=>?_,fun j k e e2 he he2 hjk=>?_⟩
 ·by_cases hj:j=i
  ·subst hj; rw [hi] at he; cases he; exact hon
  ·exact key j e hj he
 ·by_cases hj:j=i
  ·subst hj;rw [hi] at he; cases he;exact fun b h1 h2=>far k e2 (tO hjk) he2 b h2 h1
  ·by_cases hk:k=i
   ·subst hk; rw [hi] at he2; cases he2; exact far j e hj he
   ·rw [hM j hj] at he; rw [hM k hk] at he2; exact h.2 j k e e2 he he2 hjk
theorem ol.re {ι κ:Type} {c:Cx} {M:ι→Option En} {M':κ→Option En} (h:ol c M) (f:κ→ι) (hf:∀k e,M' k=some e→M (f k)=some e) (inj:∀k k' e e',M' k=some e→M' k'=some e'→f k=f k'→k=k'):ol c M':=
 ⟨fun k e he=>h.1 _ e (hf k e he),fun k k' e e' he he' hne=>h.2 _ _ e e' (hf k e he) (hf k' e' he') fun hh=>hne (inj k k' e e' he he' hh)⟩
structure Own (c:Cx) (G:Gm) (F:List En):Prop where
 m:ol c (at_ G F)
 t0:∀g k,G g k= []→c.t g k=none
section
variable {c c':Cx} {G:Gm} {F:List En}
theorem Own.on (O:Own c G F) (k:Nat) {e:En} (h:F[k]? = some e):e.on c:=O.m.1 (.inl k) e h
theorem Own.gon (O:Own c G F) {g k:Nat} {E:List En} (hE:G g k=E) (r:Nat) {e:En} (h:E[r]? = some e):e.on c:=O.m.1 (.inr (g,k,r)) e (by subst hE; exact h)
theorem Own.keep (O:Own c G F) (h:c.but (fun _=>False) c'):Own c' G F:=
 ⟨⟨fun i e he=>(O.m.1 i e he).keep fun b hb=>h.same b ((O.m.1 i e he).lt hb) id,O.m.2⟩,fun g k hk=>by rw [h.t]; exact O.t0 g k hk⟩
theorem Own.set (O:Own c G F) (k:Nat) {e e':En} {D:Nat→Prop} (hk:F[k]? = some e) (hb:c.but D c') (hD:∀b,D b→blk e.v=some b) (hon:e'.on c') (hnew:∀b,blk e'.v=some b→blk e.v=some b∨c.w.heap.size≤b):Own c' G (F.set k e'):=
 ⟨ol.upd O.m (.inl k) hb (fun b h=>⟨e,hk,hD b h⟩) (fun j hj=>by
  cases j with
  | inl j=>exact aQ (fun e=>hj (by rw [e]))
  | inr j=>rfl) (e':=e') (bh (List.getElem?_eq_some_iff.1 hk).1) hon (fun b h=>(hnew b h).imp (fun h=>⟨e,hk,h⟩) id),fun g k hk=>by rw [hb.t]; exact O.t0 g k hk⟩
theorem Own.sel {F0:List En} {L:List En} (ix:List Nat) (O:Own c G (L++F0)) (hn:ix.Nodup) {L':List En} (hL:ix.map (fun i=>L[i]?)=L'.map some):Own c G (L'++F0):=by
 have hlen:ix.length=L'.length:=by have:=mM List.length hL; simpa using this
 have hget:∀(i:Nat) (hi:i < ix.length),L[ix[i]]? = some (L'[i]'(hlen▸ hi)):=fun i hi=>by
  have:=mM (fun l=>l[i]?) hL;simpa [af hi,af (hlen▸ hi:i < L'.length)] using this
 refine ⟨ol.re O.m (fun j=>match j with
  | .inl j=>if h:j < ix.length then .inl ix[j] else .inl (j - ix.length+L.length)
  | .inr j=> .inr j) ?_ ?_,O.t0⟩
 ·intro j e he
  cases j with
  | inr j=>exact he
  | inl j=>
   by_cases hj:j < ix.length
   ·simp only [hj,vN];have h2:=hget j hj;have hlt:=(List.getElem?_eq_some_iff.1 h2).1;simp only [at_] at he⊢;rw [aB (hlen▸ hj),af (hlen▸ hj)] at he;rw [aB hlt,h2,he]
   ·simp only [hj,vO,rd];simp only [at_] at he⊢;rw [aY (by omega)] at he;rw [aY (by omega),←he]
    congr 1
    omega
 ·intro j j' e e' he he' hh
  cases j with
  | inr j=>
   cases j' with
   | inr j'=>exact hh
   | inl j'=>by_cases hj:j' < ix.length <;> simp [hj] at hh
  | inl j=>
   cases j' with
   | inr j'=>by_cases hj:j < ix.length <;> simp [hj] at hh
   | inl j'=>
    by_cases hj:j < ix.length
    ·have h1:=(List.getElem?_eq_some_iff.1 (hget j hj)).1;by_cases hj':j' < ix.length
     ·simp only [hj,hj',vN,rN] at hh;rw [(List.getElem_inj hn).1 hh]
     ·simp only [hj,hj',vN,vO,rd,rN] at hh;omega
    ·by_cases hj':j' < ix.length
     ·have h1:=(List.getElem?_eq_some_iff.1 (hget j' hj')).1;simp only [hj,hj',vN,vO,rd,rN] at hh;omega
     ·simp only [hj,hj',vO,rd,rN] at hh
      congr 1
      omega
theorem Own.cons (O:Own c G F) {e:En} {D:Nat→Prop} (hb:c.but D c') (hD:∀b,¬D b) (hon:e.on c') (hnew:∀b,blk e.v=some b→c.w.heap.size≤b):Own c' G (e :: F):=by
 have O1:ol c (at_ G (uh :: F)):=by
  refine ⟨fun i e he=>?_,fun i j e e' he he' hij=>?_⟩
  ·cases i with
   | inr i=>exact O.m.1 (.inr i) e he
   | inl i=>cases i with
    | zero=>cases he; exact AJ c
    | succ i=>exact O.m.1 (.inl i) e he
  ·have pull:∀i,i≠ .inl 0→∀e,at_ G (uh :: F) i=some e→∃i',at_ G F i'=some e∧(match i' with | .inl k=>i= .inl (k+1) | .inr k=>i= .inr k):=fun i hi e he=>by
    cases i with
    | inr i=>exact ⟨.inr i,he,rfl⟩
    | inl i=>cases i with
     | zero=>exact absurd rfl hi
     | succ i=>exact ⟨.inl i,he,rfl⟩
   by_cases hi:i= .inl 0
   ·subst hi; cases he; exact vf _
   ·by_cases hj:j= .inl 0
    ·subst hj; cases he'; exact vL _
    ·obtain ⟨i',h1,h2⟩:=pull i hi e he;obtain ⟨j',h3,h4⟩:=pull j hj e' he';refine O.m.2 i' j' e e' h1 h3 fun hh=>hij ?_;subst hh
     cases i' <;> simp_all
 exact ⟨ol.upd O1 (.inl 0) hb (fun b h=>absurd h (hD b)) (fun j hj=>by
  cases j with
  | inr j=>rfl
  | inl j=>cases j with
   | zero=>exact absurd rfl hj
   | succ j=>rfl) (e':=e) rfl hon (fun b h=> .inr (hnew b h)),fun g k hk=>by rw [hb.t]; exact O.t0 g k hk⟩
theorem Own.addHole (O:Own c G F) {e:En} (he:blk e.v=none):Own c G (e :: F):=
 O.cons (D:=fun _=>False) ⟨Cx.le.refl c,rfl,fun _ _ _=>⟨rfl,fun _=>Ja⟩⟩ (fun _=>id) (fun b hb=>by rw [he] at hb; cases hb) (fun b hb=>by rw [he] at hb; cases hb)
theorem Own.tail {e:En} (O:Own c G (e :: F)):Own c G F:=
 ⟨ol.re O.m (fun j=>match j with | .inl j=> .inl (j+1) | .inr j=> .inr j) (fun j e he=>by cases j <;> exact he) (fun j j' _ _ _ _ h=>by
  cases j <;> cases j' <;> simp_all),O.t0⟩
def jz (G:Gm) (g k:Nat) (E:List En):Gm:=fun g' k'=>if g'=g∧k'=k then E else G g' k'
theorem db (G:Gm) (g k:Nat) (E:List En):jz G g k E g k=E:=by simp [jz]
theorem uI {c:Cx} {G:Gm} {g k:Nat} {E:List En} (h:∀g k,G g k= []→c.t g k=none) (hE:E= []→G g k= []):∀g' k',jz G g k E g' k'= []→c.t g' k'=none:=fun g' k' h'=>by
 simp only [jz] at h';split at h'
 ·rename_i hh
  obtain ⟨rfl,rfl⟩:=hh;exact h _ _ (hE h')
 ·exact h _ _ h'
theorem xe {α:Type} {E:List α} {r:Nat} {e:α} (h:E.set r e= []):E= []:=by
 have:=mM List.length h;rw [cp] at this;exact ck this
theorem fE {G:Gm} {g k g' k':Nat} {E:List En} (h:¬(g'=g∧k'=k)):jz G g k E g' k'=G g' k':=by simp only [jz,ab h]
theorem Own.setR (O:Own c G F) {g k:Nat} {E:List En} (r:Nat) {e e':En} {D:Nat→Prop} (hE:G g k=E) (hr:E[r]? = some e) (hb:c.but D c') (hD:∀b,D b→blk e.v=some b) (hon:e'.on c') (hnew:∀b,blk e'.v=some b→blk e.v=some b∨c.w.heap.size≤b):
  Own c' (jz G g k (E.set r e')) F:=by
 subst hE;refine ⟨ol.upd O.m (.inr (g,k,r)) hb (fun b h=>⟨e,hr,hD b h⟩) (fun j hj=>?_) (e':=e') ?_ hon (fun b h=>(hnew b h).imp (fun h=>⟨e,hr,h⟩) id),uI (fun g k hk=>by rw [hb.t]; exact O.t0 g k hk) xe⟩
 ·cases j with
  | inl j=>rfl
  | inr j=>
   obtain ⟨g',k',r'⟩:=j;by_cases h:g'=g∧k'=k
   ·obtain ⟨rfl,rfl⟩:=h;simp only [at_,db];exact aQ (fun e=>hj (by rw [e]))
   ·simp only [at_,fE h]
 ·simp only [at_,db];exact bh (List.getElem?_eq_some_iff.1 hr).1
theorem Own.borrow (O:Own c G F) {g k:Nat} {E:List En} (r:Nat) {e:En} (hE:G g k=E) (hr:E[r]? = some e):Own c (jz G g k (E.set r uh)) (e :: F):=by
 subst hE;have hlt:=(List.getElem?_eq_some_iff.1 hr).1;have main:∀g' k' r' e1,at_ (jz G g k ((G g k).set r uh)) (e :: F) (.inr (g',k',r'))=some e1→(g',k',r')≠(g,k,r)→at_ G F (.inr (g',k',r'))=some e1:=fun g' k' r' e1 h1 hne=>by
  simp only [at_] at h1⊢;by_cases h:g'=g∧k'=k
  ·obtain ⟨rfl,rfl⟩:=h;rw [db,aQ (fun e=>hne (by rw [e]))] at h1;exact h1
  ·rwa [fE h] at h1
 have hh:∀e1,at_ (jz G g k ((G g k).set r uh)) (e :: F) (.inr (g,k,r))=some e1→e1=uh:=fun e1 h1=>by
  simp only [at_,db] at h1;rw [bh hlt] at h1
  cases h1; rfl
 classical
 let f:Nat ⊕ (Nat×Nat×Nat)→Nat ⊕ (Nat×Nat×Nat):=fun j=>match j with
  | .inl 0=> .inr (g,k,r)
  | .inl (j+1)=> .inl j
  | .inr j=> .inr j
 have hf:∀j e1,j≠ .inr (g,k,r)→at_ (jz G g k ((G g k).set r uh)) (e :: F) j=some e1→at_ G F (f j)=some e1:=fun j e1 hj he=>by
  cases j with
  | inl j=>cases j with
   | zero=>cases he; exact hr
   | succ j=>exact he
  | inr j=>exact main j.1 j.2.1 j.2.2 e1 he (fun e=>hj (by rw [←e]))
 refine ⟨⟨fun j e1 he=>?_,fun j j' e1 e2 he he2 hne=>?_⟩,uI O.t0 xe⟩
 ·by_cases hj:j= .inr (g,k,r)
  ·subst hj; rw [hh e1 he]; exact AJ c
  ·exact O.m.1 (f j) e1 (hf j e1 hj he)
 ·by_cases hj:j= .inr (g,k,r)
  ·subst hj; rw [hh e1 he]; exact vf _
  ·by_cases hj':j'= .inr (g,k,r)
   ·subst hj'; rw [hh e2 he2]; exact vL _
   ·refine O.m.2 (f j) (f j') e1 e2 (hf j e1 hj he) (hf j' e2 hj' he2) fun hff=>?_
    cases j with
    | inl j=>cases j with
     | zero=>cases j' with
      | inl j'=>cases j' with
       | zero=>exact hne rfl
       | succ j'=>simp [f] at hff
      | inr j'=>exact hj' (by simpa [f] using hff.symm)
     | succ j=>cases j' with
      | inl j'=>cases j' with
       | zero=>simp [f] at hff
       | succ j'=>exact hne (by simpa [f] using hff)
      | inr j'=>simp [f] at hff
    | inr j=>cases j' with
     | inl j'=>cases j' with
      | zero=>exact hj (by simpa [f] using hff)
      | succ j'=>simp [f] at hff
     | inr j'=>exact hne (by simpa [f] using hff)
theorem Own.give {e:En} (O:Own c G (e :: F)) {g k:Nat} {E:List En} (r:Nat) {e0:En} (hE:G g k=E) (hr:E[r]? = some e0):Own c (jz G g k (E.set r e)) F:=by
 subst hE;have hlt:=(List.getElem?_eq_some_iff.1 hr).1
 classical
 let f:Nat ⊕ (Nat×Nat×Nat)→Nat ⊕ (Nat×Nat×Nat):=fun j=>match j with
  | .inl j=> .inl (j+1)
  | .inr j=>if j=(g,k,r) then .inl 0 else .inr j
 refine ⟨ol.re O.m f (fun j e1 he=>?_) (fun j j' e1 e2 he he2 hff=>?_),uI O.t0 xe⟩
 ·cases j with
  | inl j=>exact he
  | inr j=>
   obtain ⟨g',k',r'⟩:=j;by_cases h0:(g',k',r')=(g,k,r)
   ·simp only [fM] at h0;obtain ⟨rfl,rfl,rfl⟩:=h0;simp only [at_,db] at he;rw [bh hlt] at he;simp only [f,ae];exact he
   ·simp only [f,ab h0];simp only [at_] at he⊢;by_cases h:g'=g∧k'=k
    ·obtain ⟨rfl,rfl⟩:=h;rw [db,aQ (fun e=>h0 (by rw [e]))] at he;exact he
    ·rwa [fE h] at he
 ·cases j with
  | inl j=>cases j' with
   | inl j'=>simpa [f] using hff
   | inr j'=>by_cases h:j'=(g,k,r) <;> simp [f,h] at hff
  | inr j=>cases j' with
   | inl j'=>by_cases h:j=(g,k,r) <;> simp [f,h] at hff
   | inr j'=>
    by_cases h:j=(g,k,r)
    ·by_cases h':j'=(g,k,r)
     ·rw [h,h']
     ·simp [f,h,h'] at hff
    ·by_cases h':j'=(g,k,r)
     ·simp [f,h,h'] at hff
     ·simpa [f,h,h'] using hff
theorem wu (G:Gm) (g k:Nat) (E E':List En):jz (jz G g k E) g k E'=jz G g k E':=by
 funext g' k'
 simp only [jz];split <;> rfl
theorem Own.giveB {e:En} {g k:Nat} {E:List En} (r:Nat) {e0:En} (O:Own c (jz G g k E) (e :: F)) (hr:E[r]? = some e0):Own c (jz G g k (E.set r e)) F:=by
 have:=Own.give O r (db G g k E) hr
 rwa [wu] at this
theorem ol.newObj {E:List En} (O:ol c (at_ G (E++F))) {g k:Nat} (hE:G g k= []):ol c (at_ (jz G g k E) F):=by
 classical
 let f:Nat ⊕ (Nat×Nat×Nat)→Nat ⊕ (Nat×Nat×Nat):=fun j=>match j with
  | .inl j=> .inl (j+E.length)
  | .inr j=>if j.1=g∧j.2.1=k then .inl j.2.2 else .inr j
 have hr:∀r e,at_ (jz G g k E) F (.inr (g,k,r))=some e→r < E.length:=fun r e he=>by
  simp only [at_,db] at he;exact (List.getElem?_eq_some_iff.1 he).1
 refine ol.re O f (fun j e1 he=>?_) (fun j j' e1 e2 he he2 hff=>?_)
 ·cases j with
  | inl j=>
   simp only [f,at_] at he⊢;rw [aY (by omega)];rw [←he]; congr 1; omega
  | inr j=>
   obtain ⟨g',k',r'⟩:=j;by_cases h:g'=g∧k'=k
   ·simp only [f,ae h];obtain ⟨rfl,rfl⟩:=h;have:=hr _ _ he;simp only [at_,db] at he⊢;rw [aB this]; exact he
   ·simp only [f,ab h];simp only [at_,fE h] at he⊢;exact he
 ·cases j with
  | inl j=>cases j' with
   | inl j'=>simpa [f] using hff
   | inr j'=>
    obtain ⟨g',k',r'⟩:=j';by_cases h:g'=g∧k'=k
    ·obtain ⟨rfl,rfl⟩:=h;have:=hr _ _ he2;simp [f] at hff;omega
    ·simp [f,h] at hff
  | inr j=>
   obtain ⟨g1,k1,r1⟩:=j
   cases j' with
   | inl j'=>
    by_cases h:g1=g∧k1=k
    ·obtain ⟨rfl,rfl⟩:=h;have:=hr _ _ he;simp [f] at hff;omega
    ·simp [f,h] at hff
   | inr j'=>
    obtain ⟨g',k',r'⟩:=j';by_cases h:g1=g∧k1=k
    ·by_cases h':g'=g∧k'=k
     ·simp only [f,ae h,ae h',rN] at hff;obtain ⟨rfl,rfl⟩:=h;obtain ⟨rfl,rfl⟩:=h';rw [hff]
     ·simp [f,h,h'] at hff
    ·by_cases h':g'=g∧k'=k
     ·simp [f,h,h'] at hff
     ·simpa [f,h,h'] using hff
theorem Own.newObj {E:List En} (O:Own c G (E++F)) {g k b:Nat} (hE:G g k= []) (hne:E≠ []):∃c',(c'.w=c.w∧c'.A=c.A)∧c.le c'∧c'.t g k=some b∧Own c' (jz G g k E) F:=by
 have ht:∀g' k' b',c.t g' k'=some b'→¬(g'=g∧k'=k):=fun g' k' b' h hh=>by
  obtain ⟨rfl,rfl⟩:=hh;rw [O.t0 _ _ hE] at h;cases h
 refine ⟨⟨c.w,c.A,fun g' k'=>if g'=g∧k'=k then some b else c.t g' k'⟩,⟨rfl,rfl⟩,⟨rfl,rfl,ay _,fun _ _ _ h=>⟨rfl,h⟩,fun _ _ _=>rfl,fun _ _ _=>rfl,fun g' k' b' h=>?_⟩,by simp,⟨ol.newObj O.m hE,fun g' k' h=>?_⟩⟩
 ·simp only [ab (ht g' k' b' h)];exact h
 ·simp only [jz] at h⊢;split at h
  ·exact absurd h hne
  ·rename_i hh
   simp only [ab hh];exact O.t0 _ _ h
structure Rl {α:Type} (Y:Cx→Option Nat→List En→α→Prop) (g:Nat) (c:Cx) (G:Gm) (xs:List α):Prop where
 ob:∀k x,xs[k]? = some x→Y c (c.t g k) (G g k) x
 no:∀k,xs.length≤k→G g k= []
variable {α:Type} {Y:Cx→Option Nat→List En→α→Prop} {g:Nat} {xs:List α}
theorem Rl.mono (h:Rl Y g c G xs) (hm:∀b E x,Y c (some b) E x→Y c' (some b) E x) (hs:∀E x,¬Y c none E x) (hk:c.lw c'):Rl Y g c' G xs:=
 ⟨fun k x hx=>by
  have:=h.ob k x hx
  cases hb:c.t g k with
  | none=>rw [hb] at this; exact absurd this (hs _ _)
  | some b=>rw [hb] at this; rw [hk.t g k b hb]; exact hm b _ _ this,h.no⟩
theorem Rl.set (h:Rl Y g c G xs) {k:Nat} {E:List En} {x:α} (hk:k < xs.length) (hY:Y c (c.t g k) E x):Rl Y g c (jz G g k E) (xs.set k x):=
 ⟨fun j y hy=>by
  by_cases hj:j=k
  ·subst hj;rw [bh hk] at hy;cases hy;rw [db]; exact hY
  ·rw [aQ (tO hj)] at hy;rw [fE (fun e=>hj e.2)];exact h.ob j y hy,fun j hj=>by
  rw [cp] at hj;rw [fE (fun e=>by omega)];exact h.no j hj⟩
theorem Rl.other (h:Rl Y g c G xs) {g' k:Nat} {E:List En} (hne:g≠g'):Rl Y g c (jz G g' k E) xs:=
 ⟨fun j y hy=>by rw [fE (fun e=>hne e.1)]; exact h.ob j y hy,fun j hj=>by rw [fE (fun e=>hne e.1)]; exact h.no j hj⟩
theorem Rl.new (h:Rl Y g c G xs) {E:List En} {x:α} (hY:Y c (c.t g xs.length) E x):Rl Y g c (jz G g xs.length E) (xs++ [x]):=
 ⟨fun j y hy=>by
  by_cases hj:j=xs.length
  ·subst hj;rw [aY (ay _)] at hy;simp at hy;subst hy;rw [db]; exact hY
  ·have hlt:j < xs.length:=by
    have:=(List.getElem?_eq_some_iff.1 hy).1;rw [av] at this;simp at this;omega
   rw [aB hlt] at hy;rw [fE (fun e=>hj e.2)];exact h.ob j y hy,fun j hj=>by
  rw [av] at hj;simp at hj;rw [fE (fun e=>by omega)];exact h.no j (by omega)⟩
end
end Go.Lt
namespace Go.Lt
def aP (c:Cx) (X:Cx→Value→Prop):Ending→World→Prop:=fun x w=>∃v c',x= .returned v∧w=c'.w∧c.le c'∧X c' v
def Kp (G:Gm) (N:List En) (c:Cx):Prop:=∀i e,at_ G N i=some e→e.on c
theorem Kp.nil {c:Cx} {G:Gm} {F:List En} (O:Own c G F):Kp G [] c:=fun i e h=>by
 cases i with
 | inl i=>simp [at_] at h
 | inr i=>exact O.m.1 (.inr i) e h
def G0:Gm:=fun _ _=>[]
theorem Kp.nil0 {c:Cx}:Kp G0 [] c:=fun i e h=>by
 cases i <;> simp [at_,G0] at h
theorem Kp.cons {c:Cx} {G:Gm} {N:List En} {e:En} (h:e.on c) (k:Kp G N c):Kp G (e :: N) c:=fun i e' h'=>by
 cases i with
 | inl i=>cases i with
  | zero=>cases h'; exact h
  | succ i=>exact k (.inl i) e' h'
 | inr i=>exact k (.inr i) e' h'
theorem Kp.on {c:Cx} {G:Gm} {N:List En} (h:Kp G N c) (k:Nat) {e:En} (hk:N[k]? = some e):e.on c:=h (.inl k) e hk
theorem Kp.gon {c:Cx} {G:Gm} {N:List En} (h:Kp G N c) {g k:Nat} {E:List En} (hE:G g k=E) (r:Nat) {e:En} (hr:E[r]? = some e):e.on c:=h (.inr (g,k,r)) e (by subst hE; exact hr)
def Hi (ops:Array Oper) (li:List Bool) (i:Nat) (B:List Nat):List Nat:=
 (List.range ops.size).filter fun j=> !li.getD j true && !(j==i) && (ops[j]?).any fun o=>o.after.any fun x=>Region.binds .any x && ((x.on==i && !li.getD i true) || B.contains x.on)
def Ch (ops:Array Oper) (li:List Bool) (i:Nat):Nat→List Nat
 | 0=>[]
 | n+1=>Hi ops li i (Ch ops li i n)
def okB (ops:Array Oper) (li:List Bool) (i:Nat) (D:List Nat):Bool:=
 let B:=Ch ops li i ops.size
 B.all (fun j=> !li.getD j true && !(j==i) && (ops[j]?).any fun o=>o.after.any fun x=>Region.binds .any x && (x.on==i || B.contains x.on)) && D.all fun j=>li.getD j true || B.contains j
section
variable {P:Program} {ops:Array Oper} {n:Fr} {r:Option Nat} {Q:Exit→(Nat→Value)→World→Prop} {D:List Nat} {K:Cx→Prop}
def rQ (r:Option Nat) (D:List Nat) (K:Cx→Prop) (P:Program) (ops:Array Oper) (Q:Exit→Act→World→Prop):Nat→Array Bool→Act→Cx→Prop
 | 0,listed,a,c=>Region.ready .any ops listed= []∧Q .normal a c.w
 | fuel+1,listed,a,c=>(Region.ready .any ops listed= []→Q .normal a c.w)∧
  ∀i∈Region.ready .any ops listed,wpOpIn (fen r) 0 P ops Q i (fun a' w=>∃c',w=c'.w∧c.le c'∧(i∈D∨(K c→K c'))∧rQ r D K P ops Q fuel (listed.setIfInBounds i true) a' c') a c.w
theorem rQ.sound {Q:Exit→Act→World→Prop}:∀(fuel:Nat) (listed:Array Bool) (a:Act) (c:Cx),rQ r D K P ops Q fuel listed a c→wpAnyIn (fen r) 0 P .any ops Q fuel listed a c.w
 | 0,_,_,_,h=>h
 | _+1,_,_,_,h=>⟨h.1,fun i hi=>wpOpIn_mono (fun a w ⟨c',hw,_,_,h'⟩=>by subst hw; exact rQ.sound _ _ _ _ h') (h.2 i hi)⟩
def Yl (Z:Cx→Prop) (P:Program) (ops:Array Oper) (o:Oper) (v:Value) (a:Act) (c:Cx):Prop:=
 (Region.wanted o (yielded ops a.tmps)=true∧∀c',c.le c'→Z c'→(execOp a.eval o).run P c'.w= .ok (.value v) c'.w)∨
 (Region.wanted o (yielded ops a.tmps)=false∧v=undef)
theorem Bi (o:Oper) (hs:∀cs b,o.op≠ .select cs b) (a:Act) (dst:Option Tmp) (v:Value) (h:∀d,dst=some d→d∉o.looksAt ops):
  o.semAt r (a.put dst v).eval=o.semAt r a.eval:=by
 by_cases hd:∀c,o.op≠ .defer c
 ·rw [Fs _ _ _ hd,Fs _ _ _ hd];exact IJ o hs a dst v h
 ·obtain ⟨c,hc⟩:=Classical.not_forall.1 hd;have hc:=Classical.not_not.1 hc;have he:resolve (a.put dst v).eval c o.type=resolve a.eval c o.type:=resolve_congr c o.type fun x hx=>Act.eval_put fun d hd hxd=>h d hd (by
   subst hxd;exact ew _ (List.mem_filterMap.2 ⟨.tmp d,by rw [hc]; simpa [Op.operands] using hx,rfl⟩))
  cases r with
  | none=>exact IJ o hs a dst v h
  | some l=>
   unfold Oper.semAt;rw [hc];simp only [he]
theorem Yl.wpOp {Z:Cx→Prop} {i:Nat} {o:Oper} {v:Value} {a:Act} {c:Cx} (hz:Z c) (hi:ops[i]? = some o) (hy:Yl Z P ops o v a c) {Q:Exit→Act→World→Prop} {K:Act→World→Prop}
  (h:K (a.put o.dst v) c.w):wpOpIn (fen r) 0 P ops Q i K a c.w:=by
 unfold Go.wpOpIn;simp only [hi];rcases hy with ⟨hw,hv⟩ | ⟨hw,rfl⟩
 ·rw [ae hw];refine ⟨fun _ _=>trivial,?_⟩;rw [qj (hv c (Cx.le.refl c) hz) (by simp),I3];exact h
 ·rw [ab (by rw [hw]; simp)];exact ⟨fun _ _=>trivial,h⟩
def Wt (ops:Array Oper) (listed:Array Bool) (i:Nat) (B:List Nat):Prop:=
 ∀j∈B,listed.getD j true=false∧j≠i∧∃oj,ops[j]? = some oj∧∃x∈oj.after,Region.binds .any x=true∧(x.on=i∨x.on∈B)
theorem wO (l:List Bool) (j:Nat):l.toArray.getD j true=l.getD j true:=by simp [cx,ao]
theorem CU {l:List Oper} {li:List Bool} {i:Nat} {D:List Nat} (h:okB l.toArray li i D=true):∃B,Wt l.toArray li.toArray i B∧∀j∈D,li.toArray.getD j true=true∨j∈B:=by
 refine ⟨Ch l.toArray li i l.toArray.size,fun j hj=>?_,fun j hj=>?_⟩
 ·simp only [okB,aq,tc] at h;have:=h.1 j hj;simp only [cw,eO,wJ] at this;obtain ⟨⟨h1,h2⟩,h3⟩:=this;refine ⟨by rw [wO]; exact h1,h2,?_⟩
  cases ho:l.toArray[j]? with
  | none=>rw [ho] at h3; cases h3
  | some oj=>
   rw [ho] at h3;simp only [Option.any_some,Array.any_eq_true',aq,aC,aS,He] at h3;obtain ⟨x,hx,hb,hon⟩:=h3;exact ⟨oj,rfl,x,hx,hb,hon⟩
 ·simp only [okB,aq,tc] at h;have:=h.2 j hj;simp only [aC,He] at this;rw [wO];exact this
theorem rQ.first {Q:Exit→Act→World→Prop} (hP:∀ch a w,¬Q (.panic ch) a w) (hO:∀a w,¬Q .outgrown a w) {i:Nat} {oi:Oper} {v:Value} (hi:ops[i]? = some oi)
  (hsel:∀(j:Nat) (o:Oper) cs b,ops[j]? = some o→o.op≠ .select cs b) {Z:Cx→Prop} {B:List Nat} (hZ:(∀c,Z c)∨Z=K):
  ∀(fuel:Nat) (listed:Array Bool) (a:Act) (c:Cx),
   (∀j oj,ops[j]? = some oj→j≠i→listed.getD j true=false→(∀x∈oj.after,Region.binds .any x=true→x.on≠i)→oi.apart ops oj=true)→
   Wt ops listed i B→((∀c,Z c)∨∀j∈D,listed.getD j true=true∨j∈B)→Z c→
   i∈Region.ready .any ops listed→Yl Z P ops oi v a c→
   rQ r D K P ops Q fuel (listed.setIfInBounds i true) (a.put oi.dst v) c→rQ r D K P ops Q (fuel+1) listed a c:=by
 have notB:∀(listed:Array Bool) j,Wt ops listed i B→i∈Region.ready .any ops listed→j∈Region.ready .any ops listed→j∉B:=fun listed j hW hr hj hB=>by
  obtain ⟨_,_,oj,hoj,x,hx,hb,hon⟩:=hW j hB;obtain ⟨_,oj',hoj',hall⟩:=mem_ready.1 hj;rw [hoj] at hoj';cases hoj';have h1:=hall x hx hb;have h0:listed.getD x.on true=false:=by
   rcases hon with h | h
   ·rw [h]; exact (mem_ready.1 hr).1
   ·exact (hW _ h).1
  rcases aG x.on listed.size with h' | h'
  ·simp [h'] at h0 h1; rw [h0] at h1; cases h1
  ·simp [Ha h'] at h1
 intro fuel
 induction fuel with
 | zero=>
  intro listed a c _ hW hD hz hr hy H;refine ⟨fun h=>(by rw [h] at hr; cases hr),fun j hj=>?_⟩;by_cases hji:j=i
  ·subst hji; exact hy.wpOp hz hi ⟨c,rfl,Cx.le.refl c,.inr id,H⟩
  ·have:=ID hj hji;rw [H.1] at this;cases this
 | succ fuel ih=>
  intro listed a c hfree hW hD hz hr hy H;refine ⟨fun h=>(by rw [h] at hr; cases hr),fun j hj=>?_⟩;by_cases hji:j=i
  ·subst hji; exact hy.wpOp hz hi ⟨c,rfl,Cx.le.refl c,.inr id,H⟩
  ·have h1:=H.2 j (ID hj hji);obtain ⟨hjun,oj,hoj,hall⟩:=mem_ready.1 hj;have hnot:∀x∈oj.after,Region.binds .any x=true→x.on≠i:=fun x hx hb heq=>by
    have h1:=hall x hx hb;have h0:=(mem_ready.1 hr).1;rw [heq] at h1;rcases aG i listed.size with h' | h'
    ·simp [h'] at h0 h1; rw [h0] at h1; cases h1
    ·simp [Ha h'] at h1
   obtain ⟨ha1,ha2,ha3⟩:=Oper.apart_spec (hfree j oj hoj hji hjun hnot);have hfree':∀k ok,ops[k]? = some ok→k≠i→(listed.setIfInBounds j true).getD k true=false→
     (∀x∈ok.after,Region.binds .any x=true→x.on≠i)→oi.apart ops ok=true:=fun k ok hk hki hun hno=>by
    refine hfree k ok hk hki ?_ hno;by_cases hjk:j=k
    ·subst hjk; exact hjun
    ·rw [HN true hjk] at hun; exact hun
   have hW':Wt ops (listed.setIfInBounds j true) i B:=fun k hk=>by
    obtain ⟨h1,h2⟩:=hW k hk;refine ⟨?_,h2⟩;have hjk:j≠k:=fun e=>by subst e; exact notB listed j hW hr hj hk
    rw [HN true hjk];exact h1
   have hD':(∀c,Z c)∨∀k∈D,(listed.setIfInBounds j true).getD k true=true∨k∈B:=hD.imp id fun h k hk=>by
    rcases h k hk with h | h
    ·by_cases hjk:j=k
     ·subst hjk; rw [hjun] at h; cases h
     ·exact .inl (by rw [HN true hjk]; exact h)
    ·exact .inr h
   have keep:∀(b:Act),b.tmps=a.tmps→∀(u:Value) (c':Cx),c.le c'→Yl Z P ops oi v (b.put oj.dst u) c':=fun b hb u c' hc=>by
    have hbe:b.eval=a.eval:=by funext x; cases x <;> simp [Act.eval,hb]
    have he:execOp (b.put oj.dst u).eval oi=execOp a.eval oi:=hbe▸ IJ oi (fun cs b=>hsel i oi cs b hi) _ _ _ ha3;have hw:Region.wanted oi (yielded ops (b.put oj.dst u).tmps)=Region.wanted oi (yielded ops a.tmps):=hb▸ wanted_put oi _ _ _ ha3;unfold Yl at hy⊢;rw [he,hw];exact hy.imp (fun ⟨h1,h2⟩=>⟨h1,fun c'' h hz=>h2 c'' (hc.trans h) hz⟩) id
   have fin:∀(b:Act),b.tmps=a.tmps→∀(u:Value) (w:World),(∃c',w=c'.w∧c.le c'∧(j∈D∨(K c→K c'))∧rQ r D K P ops Q fuel ((listed.setIfInBounds i true).setIfInBounds j true) ((b.put oi.dst v).put oj.dst u) c')→
     ∃c',w=c'.w∧c.le c'∧(j∈D∨(K c→K c'))∧rQ r D K P ops Q (fuel+1) (listed.setIfInBounds j true) (b.put oj.dst u) c':=by
    rintro b hb u w ⟨c',rfl,hle,hk,h⟩;have hz':Z c':=by
     rcases hZ with h | h
     ·exact h c'
     ·rcases hD with h2 | h2
      ·exact h2 c'
      ·rcases hk with h3 | h3
       ·rcases h2 j h3 with h4 | h4
        ·rw [hjun] at h4; cases h4
        ·exact absurd h4 (notB listed j hW hr hj)
       ·subst h; exact h3 hz
    refine ⟨c',rfl,hle,hk,ih _ _ _ hfree' hW' hD' hz' (ID hr (tO hji)) (keep b hb u c' hle) ?_⟩;rw [Array.setIfInBounds_comm _ _ hji,←Act.put_comm b v u ha2];exact h
   have he:oj.semAt r (a.put oi.dst v).eval=oj.semAt r a.eval:=Bi oj (fun cs b=>hsel j oj cs b hoj) _ _ _ ha1;have hw:Region.wanted oj (yielded ops (a.put oi.dst v).tmps)=Region.wanted oj (yielded ops a.tmps):=wanted_put oj _ _ _ ha1;unfold Go.wpOpIn at h1⊢;simp only [hoj] at h1⊢;rw [hw] at h1;split
   ·rename_i hww
    rw [ae hww] at h1;refine ⟨fun _ _=>trivial,?_⟩;have h1:=h1.2;have hro:(fen r).round=r:=rfl;rw [hro,he] at h1;rw [hro];generalize (oj.semAt r a.eval).run P c.w=res at h1⊢
    cases res with
    | ok x w'=>
     cases x <;> simp only [Oper.uponIn] at h1⊢
     case value u=>exact fin a rfl _ _ h1
     case skip=>exact fin a rfl _ _ h1
     case defer d=>rw [Act.put_defers] at h1; exact fin { a with defers:=_ :: a.defers} rfl _ _ h1
     case enter f args=>
      refine ⟨h1.1,h1.2.mono fun x w'' hx=>?_⟩
      cases x with
      | returned u=>exact fin a rfl _ _ hx
      | panicked ch=>exact absurd hx (hP _ _ _)
      | outgrown=>obtain ⟨a1,w1,h3⟩:=hx; exact absurd h3 (hO _ _)
     case row row args=>exact ⟨h1.1,h1.2.mono fun u w'' hv=>fin a rfl _ _ hv⟩
     case round l f tmps assign body=>
      refine ⟨h1.1,h1.2.mono fun x w'' hx=>?_⟩
      cases x with
      | returned u=>exact fin a rfl _ _ hx
      | panicked ch=>exact absurd hx (hP _ _ _)
      | outgrown=>obtain ⟨a1,w1,h3⟩:=hx; exact absurd h3 (hO _ _)
    | halt x w'=>
     cases x <;> simp only [Oper.uponIn] at h1⊢
     case panic u=>exact absurd h1 (hP _ _ _)
   ·rename_i hww
    rw [ab hww] at h1;exact ⟨fun _ _=>trivial,fin a rfl _ _ h1.2⟩
def AC (D:List Nat) (K:Cx→Prop) (P:Program) (l:List Oper) (n:Fr) (Q:Exit→(Nat→Value)→World→Prop) (fuel:Nat) (li:List Bool) (e:Nat→Value) (c:Cx):Prop:=
 rQ n.ro D K P l.toArray (yx n Q) fuel li.toArray (act n e) c
theorem Cx.drew_le (c:Cx):c.but (fun _=>False) ⟨c.w.drew,c.A,c.t⟩:=⟨⟨rfl,rfl,ay _,fun _ _ _ h=>⟨rfl,h⟩,fun _ _ _=>rfl,fun _ _ _=>rfl,fun _ _ _ h=>h⟩,rfl,fun _ _ _=>⟨rfl,fun _=>Ja⟩⟩
theorem W.regionD (D:List Nat) (K:Cx→Prop) {id:Nat} {l:List Oper} {e:Nat→Value} {c:Cx} {G:Gm} {F:List En} (O:Own c G F) (hm:P.follows .mixedOrders=true)
  (h:∀c',c.le c'→Own c' G F→AC D K P l n Q l.length (List.replicate l.length false) e c'):W P n (.region id l.toArray true) Q e c.w:=
 wpIn_region_any hm (by
  have:=rQ.sound _ _ _ _ (h _ (Cx.drew_le c).le (O.keep (Cx.drew_le c)));rw [show (List.replicate l.length false).toArray=Array.replicate l.toArray.size false by simp] at this;exact this)
variable {l:List Oper} {fuel:Nat} {li:List Bool} {e:Nat→Value} {c:Cx} {o:Oper}
theorem AC.take0 {Z:Cx→Prop} {B:List Nat} (hZ:(∀c,Z c)∨Z=K) {i:Nat} {v:Value} (hi:l.toArray[i]? = some o) (hs:Region.noSelect l.toArray=true) (hf:Region.free .any l.toArray li.toArray i=true)
  (hr:(Region.ready .any l.toArray li.toArray).contains i=true) (hB:Wt l.toArray li.toArray i B) (hD:(∀c,Z c)∨∀j∈D,li.toArray.getD j true=true∨j∈B) (hz:Z c) (hy:Yl Z P l.toArray o v (act n e) c)
  (h:AC D K P l n Q fuel (li.set i true) (upO e o.dst v) c):AC D K P l n Q (fuel+1) li e c:=by
 refine rQ.first (fun ch a w h=>h.1) (fun a w h=>h.1) hi (Region.noSelect_spec hs) hZ fuel _ _ c (Region.free_spec hi hf) hB hD hz (by simpa using hr) hy ?_;rw [pu];simpa [AC] using h
def tk (l:List Oper) (n:Nat) (li:List Bool) (i:Nat):Bool:=
 Region.noSelect l.toArray && Region.free .any l.toArray li.toArray i && (Region.ready .any l.toArray li.toArray).contains i && fi n l
theorem AC.take (i:Nat) (v:Value) (hi:l.toArray[i]? = some o) (ht:tk l n li i=true) (hw:iG l.toArray n e o=true)
  (hy:∀c',c.le c'→(execOp (ev n e) o).run P c'.w= .ok (.value v) c'.w) (h:AC D K P l n Q fuel (li.set i true) (upO e o.dst v) c):AC D K P l n Q (fuel+1) li e c:=by
 simp only [tk,aq] at ht;exact AC.take0 (Z:=fun _=>True) (B:=[]) (.inl fun _=>trivial) hi ht.1.1.1 ht.1.1.2 ht.1.2 (fun j hj=>by simp at hj) (.inl fun _=>trivial) trivial (.inl ⟨by rw [oq _ _ _ _ (kw ht.2)]; exact hw,by rw [mc]; exact fun c' hc _=>hy c' hc⟩) h
theorem AC.takeb (i:Nat) {t b:Bool} (htb:t=b) (hi:l.toArray[i]? = some o) (ht:tk l n li i=true) (hw:iG l.toArray n e o=true)
  (hy:∀c',c.le c'→(execOp (ev n e) o).run P c'.w= .ok (.value (.bool t)) c'.w) (h:AC D K P l n Q fuel (li.set i true) (upO e o.dst (.bool b)) c):AC D K P l n Q (fuel+1) li e c:=by
 subst htb;exact AC.take i _ hi ht hw hy h
theorem AC.takeK (i:Nat) (v:Value) (hk:K c) (hi:l.toArray[i]? = some o) (ht:tk l n li i=true) (hB:okB l.toArray li i D=true) (hw:iG l.toArray n e o=true)
  (hy:∀c',c.le c'→K c'→(execOp (ev n e) o).run P c'.w= .ok (.value v) c'.w) (h:AC D K P l n Q fuel (li.set i true) (upO e o.dst v) c):AC D K P l n Q (fuel+1) li e c:=by
 simp only [tk,aq] at ht;obtain ⟨B,h1,h2⟩:=CU hB;exact AC.take0 (Z:=K) (B:=B) (.inr rfl) hi ht.1.1.1 ht.1.1.2 ht.1.2 h1 (.inr h2) hk (.inl ⟨by rw [oq _ _ _ _ (kw ht.2)]; exact hw,by rw [mc]; exact hy⟩) h
theorem AC.pass (i:Nat) (hi:l.toArray[i]? = some o) (ht:tk l n li i=true) (hw:iG l.toArray n e o=false)
  (h:AC D K P l n Q fuel (li.set i true) (upO e o.dst undef) c):AC D K P l n Q (fuel+1) li e c:=by
 simp only [tk,aq] at ht;exact AC.take0 (Z:=fun _=>True) (B:=[]) (.inl fun _=>trivial) hi ht.1.1.1 ht.1.1.2 ht.1.2 (fun j hj=>by simp at hj) (.inl fun _=>trivial) trivial (.inr ⟨by rw [oq _ _ _ _ (kw ht.2)]; exact hw,rfl⟩) h
def Go1 (D:List Nat) (K:Cx→Prop) (P:Program) (l:List Oper) (n:Fr) (Q:Exit→(Nat→Value)→World→Prop) (fuel:Nat) (li:List Bool) (e:Nat→Value) (c:Cx) (i:Nat):Prop:=
 wpOpIn (fen n.ro) 0 P l.toArray (yx n Q) i (fun a' w=>∃c',w=c'.w∧c.le c'∧(i∈D∨(K c→K c'))∧rQ n.ro D K P l.toArray (yx n Q) fuel (li.toArray.setIfInBounds i true) a' c') (act n e) c.w
def Fp (p:Nat→Prop):List Nat→Prop
 | []=>True
 | i :: l=>p i∧Fp p l
theorem Fp.mem {p:Nat→Prop}:∀{l:List Nat},Fp p l→∀i∈l,p i
 | [],_,i,hi=>by cases hi
 | a :: l,h,i,hi=>by
  rcases List.mem_cons.1 hi with rfl | hi
  ·exact h.1
  ·exact h.2.mem i hi
theorem AC.many (is:List Nat) (hne:is≠ []) (hr:Region.ready .any l.toArray li.toArray=is) (h:Fp (Go1 D K P l n Q fuel li e c) is):AC D K P l n Q (fuel+1) li e c:=
 ⟨fun h0=>(by rw [hr] at h0; exact absurd h0 hne),fun j hj=>h.mem j (hr▸ hj)⟩
theorem Go1.mk {i:Nat} (hi:l.toArray[i]? = some o) (hsl:fi n l=true) (hw:iG l.toArray n e o=true)
  (h:o.wpIn (fen n.ro) 0 P (act n e) c.w (fun a w=>∃e' c',a=act n e'∧w=c'.w∧c.le c'∧(i∈D∨(K c→K c'))∧AC D K P l n Q fuel (li.set i true) e' c') (yx n Q)):Go1 D K P l n Q fuel li e c i:=by
 unfold Go1 wpOpIn;simp only [hi];rw [ae (by rw [oq _ _ _ _ (kw hsl)]; exact hw)];refine Oper.wpIn_mono ?_ h;rintro a w ⟨e',c',rfl,rfl,hle,hk,h'⟩;exact ⟨c',rfl,hle,hk,by simpa [AC] using h'⟩
theorem Go1.val {i:Nat} {v:Value} {c':Cx} (hi:l.toArray[i]? = some o) (hsl:fi n l=true) (hw:iG l.toArray n e o=true)
  (hrun:(execOp (ev n e) o).run P c.w= .ok (.value v) c'.w) (hle:c.le c') (hk:D.contains i=true∨K c') (h:AC D K P l n Q fuel (li.set i true) (upO e o.dst v) c'):Go1 D K P l n Q fuel li e c i:=
 Go1.mk hi hsl hw (CS hrun ⟨_,c',rfl,rfl,hle,hk.imp (by simp) fun h _=>h,h⟩)
theorem Go1.do_ {i:Nat} {c':Cx} (hi:l.toArray[i]? = some o) (hsl:fi n l=true) (hw:iG l.toArray n e o=true)
  (hrun:(execOp (ev n e) o).run P c.w= .ok .skip c'.w) (hle:c.le c') (hk:D.contains i=true∨K c') (h:AC D K P l n Q fuel (li.set i true) (upO e o.dst undef) c'):Go1 D K P l n Q fuel li e c i:=
 Go1.mk hi hsl hw (FE hrun ⟨_,c',rfl,rfl,hle,hk.imp (by simp) fun h _=>h,h⟩)
theorem Go1.call {i:Nat} {f:FuncId} {args:Array Value} {X:Cx→Value→Prop} (hi:l.toArray[i]? = some o) (hsl:fi n l=true) (hw:iG l.toArray n e o=true)
  (hrun:(execOp (ev n e) o).run P c.w= .ok (.enter f args) c.w) (hc:Calls P f args c.w (aP c X))
  (h:∀v c',c.le c'→X c' v→(D.contains i=true∨K c')∧AC D K P l n Q fuel (li.set i true) (upO e o.dst v) c'):Go1 D K P l n Q fuel li e c i:=
 Go1.mk hi hsl hw (AD hrun (hc.mono fun x w=>by
  rintro ⟨v,c',rfl,rfl,hx,hX⟩;have:=h v c' hx hX;exact ⟨v,rfl,_,c',rfl,rfl,hx,this.1.imp (by simp) fun h _=>h,this.2⟩))
theorem AC.done (hr:Region.ready .any l.toArray li.toArray= []) (h:Q .normal e c.w):AC D K P l n Q fuel li e c:=by
 cases fuel with
 | zero=>exact ⟨hr,trivial,e,rfl,h⟩
 | succ k=>exact ⟨fun _=>⟨trivial,e,rfl,h⟩,by rw [hr]; simp⟩
theorem AC.gh {c':Cx} (hw:c'.w=c.w) (hA:c.le c') (hk:K c→K c') (h:AC D K P l n Q fuel li e c'):AC D K P l n Q fuel li e c:=by
 have key:∀(fuel:Nat) (listed:Array Bool) (a:Act),rQ n.ro D K P l.toArray (yx n Q) fuel listed a c'→rQ n.ro D K P l.toArray (yx n Q) fuel listed a c:=fun fuel listed a h=>by
  cases fuel with
  | zero=>exact ⟨h.1,by rw [←hw]; exact h.2⟩
  | succ fuel=>
   refine ⟨fun h0=>by rw [←hw]; exact h.1 h0,fun i hi=>?_⟩;have:=h.2 i hi;rw [hw] at this;exact wpOpIn_mono (fun a w ⟨c2,h1,h2,h3,h4⟩=>⟨c2,h1,hA.trans h2,h3.imp id fun h5 h6=>h5 (hk h6),h4⟩) this
 exact key _ _ _ h
theorem WL.callP {ops:Array Oper} {rest:List Oper} {f:FuncId} {args:Array Value} {X:Cx→Value→Prop} (hg:o.guard=none) (hr:(execOp (ev n e) o).run P c.w= .ok (.enter f args) c.w)
  (hc:Calls P f args c.w (aP c X)) (h:∀v c',c.le c'→X c' v→WL P ops n Q rest (upO e o.dst v) c'.w):WL P ops n Q (o :: rest) e c.w:=
 WL.call hg hr (hc.mono fun x w ⟨v,c',h1,h2,h3,h4⟩=>⟨v,h1,by subst h2; exact h v c' h3 h4⟩)
theorem WL.gh {ops:Array Oper} {rest:List Oper} {c':Cx} (hw:c'.w=c.w) (h:WL P ops n Q rest e c'.w):WL P ops n Q rest e c.w:=hw▸ h
end
end Go.Lt
namespace Go.Lt
section
variable {P:Program} {c c':Cx} {G:Gm} {F:List En} {α:Type} {R:Rp α}
theorem rv {s:Sem Value} {w w':World} {v:Value} (h:s.run P w= .ok v w'):(do pure (Next.value (←s)):Sem Next).run P w= .ok (.value v) w':=by
  simp [h,Result.andThen]
theorem rs {s:Sem Unit} {w w':World} (h:s.run P w= .ok () w'):(do s; pure Next.skip:Sem Next).run P w= .ok .skip w':=by
  simp [h,Result.andThen]
theorem rx {ρ:Operand→Value} {o:Oper} {s:Sem Value} {w w':World} {v:Value} (hx:execOp ρ o=(do pure (Next.value (←s)):Sem Next)) (h:s.run P w= .ok v w'):(execOp ρ o).run P w= .ok (.value v) w':=by
  rw [hx];exact rv h
theorem Bo {v:Value} {xs:List α} {T E:TypeId} {k:IntKind} {i:Int} {x:α} (hT:P.underlying T=some (.slice E)) (hE:(P.info? E).map (·.size)=some R.size)
    (h:Sl R c v xs) (hi:idx xs i=some x) (w:World):(Instr.indexAt T v (.int k i)).run P w= .ok (.pointer (some ⟨sb v,so v+i.toNat * R.size,none⟩)) w:=by
  obtain ⟨a,cap,rfl,_,_,h4⟩:=h;unfold idx at hi;split at hi
  · rename_i h0
    have hlt:i.toNat < xs.length:=by
      rcases aG i.toNat xs.length with h | h
      · exact h
      · rw [aA h] at hi; cases hi
    obtain ⟨b,off,l,rfl,_,_⟩:=h4 _ _ hi;obtain ⟨ti,hti,hsz⟩:=Option.map_eq_some_iff.1 hE;have hlt':i < xs.length:=by omega
    simp [Instr.indexAt,asIntOf,bL hT,h0,hlt',sizeOf,typeInfo,hti,hsz,sb,so,dG]
  · cases hi
theorem Ep {v:Value} {xs:List α} {T E ty:TypeId} (hT:P.underlying T=some (.slice E)) (h:Sl R c v xs) (w:World):
    (Builtin.len_ #[T] ty #[v]).run P w= .ok (.int .i64 (xs.length:Int)) w:=by
  obtain ⟨a,cap,rfl,_⟩:=h;simp [Builtin.len_,bL hT,goInt]
theorem Bn {T:TypeId} {b o:Nat} {v:Value} {d:TypeDesc} (hT:P.underlying T=some d) (hd:(match d with | .struct _ | .array _ _=>false | _=>true)=true)
    (h:Im c b o v):(Instr.loadAt T (.pointer (some ⟨b,o,none⟩))).run P c.w= .ok v c.w:=by
  cases d <;> simp_all [Instr.loadAt,Instr.sureAddr,loadVar,isAgg,bL hT,load,Sem.run,h.cell]
theorem rZ (b:Nat) {w:World}:∀(l:List Value) (o i:Nat) (acc:Array Value),(∀j u,l[j]? = some u→w.cell? ⟨b,o+i+j,none⟩=some u)→
    (loadCellsFrom ⟨b,o,none⟩ i l.length acc).run P w= .ok (acc++l.toArray) w:=by
  intro l
  induction l with
  | nil=>intro o i acc h; simp [loadCellsFrom]
  | cons v l ih=>
    intro o i acc h;have h0:=h 0 v rfl;simp only [qe] at h0;simp only [aI,loadCellsFrom,dG,load,kN,Sem.run,h0,Result.andThen];rw [ih o (i+1) (acc.push v) (fun j u hu=>by have:=h (j+1) u hu; rwa [show o+i+(j+1)=o+(i+1)+j by omega] at this)];simp
theorem ou {w:World} {T:TypeId} {b o:Nat} {l:List Value} (hT:(P.underlying T).map (fun d=>match d with | .struct _ | .array _ _=>true | _=>false)=some true) (hs:(P.info? T).map (·.size)=some l.length)
    (h:∀j u,l[j]? = some u→w.cell? ⟨b,o+j,none⟩=some u):(loadVar T ⟨b,o,none⟩).run P w= .ok (.agg l.toArray) w:=by
  obtain ⟨ti,hti,hsz⟩:=Option.map_eq_some_iff.1 hs;obtain ⟨d,hd,hag⟩:=Option.map_eq_some_iff.1 hT;have h1:=rZ (P:=P) (w:=w) b l o 0 #[] (fun j u hu=>h j u hu);have h2:(isAgg T).run P w= .ok true w:=by
    cases d <;> simp_all [isAgg,bL hd]
  rw [←hsz] at h1;simp [loadVar,h2,sizeOf,typeInfo,hti,loadCells,h1,Result.andThen]
theorem Bm {T:TypeId} {b o:Nat} {l:List Value} (hT:(P.underlying T).map (fun d=>match d with | .struct _ | .array _ _=>true | _=>false)=some true) (hs:(P.info? T).map (·.size)=some l.length)
    (h:∀j u,l[j]? = some u→Im c b (o+j) u):(Instr.loadAt T (.pointer (some ⟨b,o,none⟩))).run P c.w= .ok (.agg l.toArray) c.w:=by
  simp only [Instr.loadAt,Instr.sureAddr,kN,zi,Result.andThen];exact ou hT hs fun j u hu=>(h j u hu).cell
theorem AH {b o k:Nat} {L l:List Value} (h:∀j u,L[j]? = some u→Im c b (o+j) u) (hl:(L.drop k).take l.length=l):∀j u,l[j]? = some u→Im c b (o+k+j) u:=fun j u hu=>by
  rw [←hl,aN] at hu;split at hu
  · rw [bP] at hu
    have:=h _ _ hu
    rwa [rO]
  · cases hu
theorem En.on.cell {e:En} (h:e.on c) {b:Nat} (hb:blk e.v=some b) (j:Nat):c.w.cell? ⟨b,j,none⟩=e.vs[j]? :=by
  simp [World.cell?,(h b hb).1]
theorem mE {T:TypeId} {e:En} {b j:Nat} {v:Value} {d:TypeDesc} (hT:P.underlying T=some d) (hd:(match d with | .struct _ | .array _ _=>false | _=>true)=true)
    (h:e.on c) (hb:blk e.v=some b) (hj:e.vs[j]? = some v):(Instr.loadAt T (.pointer (some ⟨b,j,none⟩))).run P c.w= .ok v c.w:=by
  have hc:c.w.cell? ⟨b,j,none⟩=some v:=by rw [h.cell hb,hj]
  cases d <;> simp_all [Instr.loadAt,Instr.sureAddr,loadVar,isAgg,bL hT,load,Sem.run]
theorem Gz {T:TypeId} {e:En} {b j:Nat} {l:List Value} (hT:(P.underlying T).map (fun d=>match d with | .struct _ | .array _ _=>true | _=>false)=some true) (hs:(P.info? T).map (·.size)=some l.length)
    (h:e.on c) (hb:blk e.v=some b) (hl:(e.vs.drop j).take l.length=l):(Instr.loadAt T (.pointer (some ⟨b,j,none⟩))).run P c.w= .ok (.agg l.toArray) c.w:=by
  simp only [Instr.loadAt,Instr.sureAddr,kN,zi,Result.andThen];refine ou hT hs fun i u hu=>?_;have:(e.vs.drop j)[i]? = some u:=by
    rw [←hl,aN] at hu;split at hu
    · exact hu
    · cases hu
  rw [bP] at this;rw [h.cell hb,this]
def mb:List Value→Prop
  | []=>True
  | u :: l=>u.oneCell'=true∧mb l
theorem mb.mem:∀{l:List Value},mb l→∀u∈l,u.oneCell'=true
  | [],_,u,hu=>by cases hu
  | a :: l,h,u,hu=>by
    rcases List.mem_cons.1 hu with rfl | hu
    · exact h.1
    · exact h.2.mem u hu
theorem frozen?_row {w w':World} {b:Nat} {l m:Array Value} {T:TypeId} (h:w.heap[b]? = some (.cells l T (0,0))) (h':w'.heap[b]? = some (.cells m T (0,0))) (ho:∀k,k≠b→w'.heap[k]? = w.heap[k]?) (a:Addr):w'.frozen? a=w.frozen? a:=by
  by_cases hk:a.block=b
  · simp [World.frozen?,hk,h,h']
  · simp [World.frozen?,ho _ hk]
theorem Cx.row {b:Nat} {l m:List Value} {T:TypeId} (h:c.w.heap[b]? = some (.cells l.toArray T (0,0))) (lim:Nat) (hA:∀o,c.A b o↔lim≤o) (hs:∀o,o < lim→m[o]? = l[o]?) (lim':Nat) (hl:lim≤lim'):
    ∃c':Cx,c'.w=c.w.setRow b m.toArray∧c.but (fun k=>k=b) c'∧c'.w.heap[b]? = some (.cells m.toArray T (0,0))∧∀o,c'.A b o↔lim'≤o:=by
  have hbk:=Am c.w b l.toArray m.toArray T (0,0) h;have hoth:∀k,k≠b→(c.w.setRow b m.toArray).heap[k]? = c.w.heap[k]? :=fun k hk=>Ga c.w b k _ hk;have hsz:(c.w.setRow b m.toArray).heap.size=c.w.heap.size:=by simp [World.setRow]
  refine ⟨⟨c.w.setRow b m.toArray,fun k o=>(k≠b∧c.A k o)∨(k=b∧lim'≤o),c.t⟩,rfl,⟨⟨rfl,rfl,by rw [hsz]; exact ay _,fun k o hk hnA=>?_,fun k hk hnA=>?_,fun a _ _=>frozen?_row h hbk hoth a,fun _ _ _ h=>h⟩,rfl,fun k hk hkb=>⟨hoth k hkb,fun o=>?_⟩⟩,hbk,fun o=>?_⟩
  · by_cases hkb:k=b
    · subst hkb
      have ho:o < lim:=by
        rcases aG o lim with h | h
        · exact h
        · exact absurd ((hA o).2 h) hnA
      refine ⟨?_,?_⟩
      · rw [cell_setRow_same c.w k o l.toArray _ T (0,0) h,iV c.w k o l.toArray T (0,0) h,bV,bV,hs o ho]
      · rintro (h | h)
        · exact h.1 rfl
        · omega
    · refine ⟨mf (w:=c.w) (a:=⟨k,o,none⟩) (hoth k hkb),?_⟩
      rintro (h | h)
      · exact hnA h.2
      · exact hkb h.1
  · by_cases hkb:k=b
    · subst hkb
      exact absurd ((hA lim).2 (ay _)) (hnA lim)
    · exact hoth k hkb
  · simp [hkb]
  · simp
theorem stE {T:TypeId} {e:En} {b o:Nat} {us:List Value} {v:Value} (h:e.on c) (hb:blk e.v=some b) (hlim:e.lim=0) (hv:v.cells.toList=us) (hs:(P.info? T).map (·.size)=some us.length) (h1:mb us)
    (hl:o+us.length≤e.vs.length):∃c',(Instr.storeAt T (.pointer (some ⟨b,o,none⟩)) v).run P c.w= .ok () c'.w∧c.but (fun k=>k=b) c'∧(⟨e.v,e.T,e.vs.take o++us++e.vs.drop (o+us.length),0⟩:En).on c':=by
  obtain ⟨ti,hti,hsz⟩:=Option.map_eq_some_iff.1 hs;have hh:=h b hb;have h2:=yc P b o e.T us 0 e.vs.toArray c.w hh.1 (by simpa using hl) h1.mem;have hz:v.cells.size=us.length:=by rw [←hv]; simp
  simp only [qe] at h2;obtain ⟨c',e1,e2,e3,e4⟩:=Cx.row (m:=e.vs.take o++us++e.vs.drop (o+us.length)) hh.1 e.lim hh.2 (fun o ho=>by omega) 0 (by omega);refine ⟨c',?_,e2,fun b' hb'=>?_⟩
  · rw [e1]
    simp [Instr.storeAt,Instr.sureAddr,storeVar,sizeOf,typeInfo,hti,hsz,hz,hv,h2,Result.andThen]
  · simp only at hb'
    rw [hb] at hb';cases hb';exact ⟨e3,e4⟩
variable {ρ:Operand→Value} {o:Oper}
theorem Own.st {T:TypeId} {e:En} {b j:Nat} {us nw:List Value} {v:Value} (k:Nat) (O:Own c G F) (hx:execOp ρ o=(do Instr.storeAt T (.pointer (some ⟨b,j,none⟩)) v; pure Next.skip:Sem Next)) (hk:F[k]? = some e) (hb:blk e.v=some b) (hlim:e.lim=0)
    (hv:v.cells.toList=us) (hs:(P.info? T).map (·.size)=some us.length) (h1:mb us) (hl:Nat.ble (j+us.length) e.vs.length=true) (hn:e.vs.take j++us++e.vs.drop (j+us.length)=nw):
    ∃c',(execOp ρ o).run P c.w= .ok .skip c'.w∧c.le c'∧Own c' G (F.set k ⟨e.v,e.T,nw,0⟩):=by
  subst hn;obtain ⟨c',h1,h2,h3⟩:=stE (O.on k hk) hb hlim hv hs h1 (bE hl);exact ⟨c',by rw [hx]; exact rs h1,h2.le,O.set k hk h2 (fun b' hb'=>by rw [hb,hb']) h3 (fun b h=> .inl h)⟩
theorem Own.stG {T:TypeId} {e:En} {b j:Nat} {us nw:List Value} {v:Value} {g k:Nat} {E:List En} (r:Nat) (O:Own c G F) (hx:execOp ρ o=(do Instr.storeAt T (.pointer (some ⟨b,j,none⟩)) v; pure Next.skip:Sem Next)) (hE:G g k=E) (hr:E[r]? = some e) (hb:blk e.v=some b) (hlim:e.lim=0)
    (hv:v.cells.toList=us) (hs:(P.info? T).map (·.size)=some us.length) (h1:mb us) (hl:Nat.ble (j+us.length) e.vs.length=true) (hn:e.vs.take j++us++e.vs.drop (j+us.length)=nw):
    ∃c',(execOp ρ o).run P c.w= .ok .skip c'.w∧c.le c'∧Own c' (jz G g k (E.set r ⟨e.v,e.T,nw,0⟩)) F:=by
  subst hn;obtain ⟨c',h1,h2,h3⟩:=stE (O.gon hE r hr) hb hlim hv hs h1 (bE hl);exact ⟨c',by rw [hx]; exact rs h1,h2.le,O.setR r hE hr h2 (fun b' hb'=>by rw [hb,hb']) h3 (fun b h=> .inl h)⟩
theorem Cx.new (c:Cx) (vs:List Value) (T:TypeId) (lim:Nat):∃c':Cx,c'.w=c.w.alloc (.cells vs.toArray T)∧c.but (fun _=>False) c'∧c'.w.heap[c.w.heap.size]? = some (.cells vs.toArray T (0,0))∧c.w.heap.size < c'.w.heap.size∧∀o,c'.A c.w.heap.size o↔lim≤o:=
  ⟨⟨c.w.alloc (.cells vs.toArray T),fun k p=>(k < c.w.heap.size∧c.A k p)∨(k=c.w.heap.size∧lim≤p),c.t⟩,rfl,
   ⟨⟨rfl,rfl,by simp,fun k p hk hA=>⟨mf (w:=c.w) (a:=⟨k,p,none⟩) (dZ _ _ _ hk),by rintro (h | h); exact hA h.2; omega⟩,fun k hk _=>dZ _ _ _ hk,fun a _ _=>RowKit.frozen?_alloc_cells _ _ _ _,fun _ _ _ h=>h⟩,rfl,
    fun k hk _=>⟨dZ _ _ _ hk,fun p=>⟨by rintro (h | h); exact h.2; omega,fun h=> .inl ⟨hk,h⟩⟩⟩⟩,heap_alloc_new c.w _,by simp,fun o=>by simp⟩
theorem Own.al {T:TypeId} {vs:List Value} (O:Own c G F) (hr:(execOp ρ o).run P c.w= .ok (.value (.pointer (some ⟨c.w.heap.size,0,none⟩))) (c.w.alloc (.cells vs.toArray T))):
    ∃v c',(execOp ρ o).run P c.w= .ok (.value v) c'.w∧c.le c'∧∃b,v= .pointer (some ⟨b,0,none⟩)∧Own c' G (⟨.pointer (some ⟨b,0,none⟩),T,vs,0⟩ :: F):=by
  obtain ⟨c',h1,h2,h3,_,h4⟩:=Cx.new c vs T 0;refine ⟨_,c',by rw [h1]; exact hr,h2.le,_,rfl,O.cons h2 (fun _=>id) (fun b hb=>?_) (fun b hb=>?_)⟩
  · simp only [blk,aK] at hb; subst hb; exact ⟨h3,h4⟩
  · simp only [blk,aK] at hb; omega
theorem Own.bx {T:TypeId} {vs:List Value} (O:Own c G F) (hr:(execOp ρ o).run P c.w= .ok (.value (.pointer (some ⟨c.w.heap.size,0,none⟩))) (c.w.alloc (.cells vs.toArray T))):
    ∃v c',(execOp ρ o).run P c.w= .ok (.value v) c'.w∧c.le c'∧∃b,v= .pointer (some ⟨b,0,none⟩)∧Own c' G F∧∀j u,vs[j]? = some u→Im c' b (0+j) u:=by
  obtain ⟨c',h1,h2,h3,h5,h4⟩:=Cx.new c vs T vs.length;refine ⟨_,c',by rw [h1]; exact hr,h2.le,_,rfl,O.keep h2,fun j u hu=>⟨h5,fun hA=>?_,?_⟩⟩
  · have h6:=(h4 _).1 hA
    have:=(List.getElem?_eq_some_iff.1 hu).1;omega
  · rw [iV _ _ _ _ _ _ h3,bV,gI,hu]
def AR (R:Rp α) (c:Cx) (vs:List Value) (xs:List α):Prop:=∀i x,xs[i]? = some x→R.cells c ((vs.drop (i * R.size)).take R.size) x
def OA (R:Rp α) (c:Cx) (v:Value) (vs:List Value) (xs:List α):Prop:=
  0 < R.size∧((v= .slice none 0 0∧xs= [])∨∃g cap,v= .slice (some ⟨g,0,none⟩) xs.length cap∧xs.length≤cap∧cap≤maxLen∧cap * R.size≤vs.length)∧AR R c vs xs
def es (m:Bool) (R:Rp α) (v:Value) (E:TypeId) (vs:List Value) (xs:List α):En:=⟨v,E,vs,cond m 0 (xs.length * R.size)⟩
theorem AR.lw {vs:List Value} {xs:List α} (h:AR R c vs xs) (k:c.lw c'):AR R c' vs xs:=fun i x hx=>R.mono k (h i x hx)
theorem AR.mono {vs:List Value} {xs:List α} (h:AR R c vs xs) (k:c.le c'):AR R c' vs xs:=h.lw k.lw
theorem OA.lw {v:Value} {vs:List Value} {xs:List α} (h:OA R c v vs xs) (k:c.lw c'):OA R c' v vs xs:=⟨h.1,h.2.1,h.2.2.lw k⟩
theorem OA.mono {v:Value} {vs:List Value} {xs:List α} (h:OA R c v vs xs) (k:c.le c'):OA R c' v vs xs:=h.lw k.lw
theorem OA.nil (h0:0 < R.size):OA R c (.slice none 0 0) [] []:=⟨h0,.inl ⟨rfl,rfl⟩,fun i x h=>by simp at h⟩
theorem OA.one {v:Value} {vs:List Value} {xs:List α} (h:OA R c v vs xs):v.oneCell'=true:=by
  rcases h.2.1 with ⟨rfl,_⟩ | ⟨g,cap,rfl,_⟩ <;> rfl
theorem CB {v:Value} {vs:List Value} {xs:List α} {T E ty:TypeId} (hT:P.underlying T=some (.slice E)) (h:OA R c v vs xs) (w:World):
    (Builtin.len_ #[T] ty #[v]).run P w= .ok (.int .i64 (xs.length:Int)) w:=by
  rcases h.2.1 with ⟨rfl,rfl⟩ | ⟨g,cap,rfl,_⟩ <;> simp [Builtin.len_,bL hT,goInt]
theorem fN {β:Type} {a b:List β} {i s:Nat} (h:i+s≤a.length):((a++b).drop i).take s=(a.drop i).take s:=by
  rw [gX (by omega),dF (by rw [bm]; omega)]
theorem iI {i k s:Nat} (h:i < k):i * s+s≤k * s:=by
  have:=gW s (show i+1≤k by omega);rw [eu,nb] at this;exact this
theorem AR.len {vs:List Value} {xs:List α} (h:AR R c vs xs) (hp:0 < R.size):xs.length * R.size≤vs.length:=by
  rcases kO xs.length with h0 | h0
  · rw [h0,qd]; exact dp _
  · have hx:xs[xs.length - 1]? = some xs[xs.length - 1]:=af (by omega)
    have:=R.len (h _ _ hx);rw [az,bm] at this;have e:xs.length * R.size=(xs.length - 1) * R.size+R.size:=by
      conv=>lhs; rw [show xs.length=xs.length - 1+1 by omega,eu,nb]
    omega
theorem OA.sl {v:Value} {E:TypeId} {vs:List Value} {xs:List α} (h:OA R c v vs xs) (hon:(es false R v E vs xs).on c):Sl R c v xs:=by
  obtain ⟨hp,h1,h2⟩:=h;rcases h1 with ⟨rfl,rfl⟩ | ⟨g,cap,rfl,hc,hm,hcs⟩
  · exact Sl.nl R c
  · obtain ⟨h3,h4⟩:=hon g rfl
    refine ⟨_,cap,rfl,hc,hm,fun i x hx=>⟨g,0,_,rfl,h2 i x hx,fun j u hu=>?_⟩⟩;have hj:j < R.size∧vs[i * R.size+j]? = some u:=by
      rw [aN] at hu;split at hu
      · rename_i hj
        exact ⟨hj,by rwa [bP] at hu⟩
      · cases hu
    have hi:=iI (s:=R.size) (List.getElem?_eq_some_iff.1 hx).1;refine ⟨(Array.getElem?_eq_some_iff.1 h3).1,fun hA=>?_,?_⟩
    · have:=(h4 _).1 hA
      simp only [es,Dy] at this;omega
    · rw [iV _ _ _ _ _ _ h3,bV,gI]
      exact hj.2
theorem Own.frz {v:Value} {E:TypeId} {vs:List Value} {xs:List α} (k:Nat) (O:Own c G F) (hk:F[k]? = some (es true R v E vs xs)) (h:OA R c v vs xs):
    ∃c',c'.w=c.w∧c.le c'∧Own c' G (F.set k (es false R v E vs xs))∧Sl R c' v xs:=by
  have hon:=O.on k hk
  let c':Cx:=⟨c.w,fun b o=>c.A b o∧¬(blk v=some b∧o < xs.length * R.size),c.t⟩
  have hle:c.le c':=⟨rfl,rfl,ay _,fun _ _ _ h=>⟨rfl,fun h2=>h h2.1⟩,fun _ _ _=>rfl,fun _ _ _=>rfl,fun _ _ _ h=>h⟩;have hb:c.but (fun b=>blk v=some b) c':=⟨hle,rfl,fun b hb hd=>⟨rfl,fun o=>⟨fun h=>h.1,fun h=>⟨h,fun h2=>hd h2.1⟩⟩⟩⟩;have hon':(es false R v E vs xs).on c':=fun b hb=>by
    obtain ⟨h1,h2⟩:=hon b hb;refine ⟨h1,fun o=>?_⟩;have hb':blk v=some b:=hb;simp only [c',hb',uG,es,Dy];rw [h2 o];simp [es]
  exact ⟨c',rfl,hle,O.set k hk hb (fun b h=>h) hon' (fun b h=> .inl h),(h.mono hle).sl hon'⟩
theorem Own.slf {v:Value} {E:TypeId} {vs:List Value} {xs:List α} (k:Nat) (O:Own c G F) (hk:F[k]? = some (es false R v E vs xs)) (h:OA R c v vs xs):Sl R c v xs:=h.sl (O.on k hk)
theorem Sl.flat {u:Value} {ys:List α} (h:Sl R c u ys):∃nw:List Value,nw.length=ys.length * R.size∧(∀j w,nw[j]? = some w→Im c (sb u) (so u+j) w)∧(∀w∈nw,w.oneCell'=true)∧
    (∀i x,ys[i]? = some x→R.cells c ((nw.drop (i * R.size)).take R.size) x):=by
  suffices ∀k,k≤ys.length→∃nw:List Value,nw.length=k * R.size∧(∀j w,nw[j]? = some w→Im c (sb u) (so u+j) w)∧(∀w∈nw,w.oneCell'=true)∧
      (∀i x,i < k→ys[i]? = some x→R.cells c ((nw.drop (i * R.size)).take R.size) x) by
    obtain ⟨nw,h1,h2,h3,h4⟩:=this ys.length (ay _);exact ⟨nw,h1,h2,h3,fun i x hx=>h4 i x (List.getElem?_eq_some_iff.1 hx).1 hx⟩
  intro k
  induction k with
  | zero=>exact fun _=>⟨[],by simp,by simp,by simp,fun i x hi=>by omega⟩
  | succ k ih=>
    intro hk;obtain ⟨nw,h1,h2,h3,h4⟩:=ih (by omega);have hx:ys[k]? = some ys[k]:=af (by omega);obtain ⟨l,hl,hc⟩:=h.at hx;have hll:=R.len hl;refine ⟨nw++l,by rw [av,h1,hll,eu,nb],fun j w hw=>?_,fun w hw=>?_,fun i x hi hxi=>?_⟩
    · rcases aG j nw.length with hj | hj
      · rw [aB hj] at hw
        exact h2 j w hw
      · rw [aY hj] at hw
        have:=hc _ _ hw;rw [h1] at this
        rwa [show so u+k * R.size+(j - k * R.size)=so u+j by omega] at this
    · rcases List.mem_append.1 hw with hw | hw
      · exact h3 w hw
      · exact R.one hl w hw
    · rcases aG i k with hik | hik
      · rw [fN (by rw [h1]; exact iI hik)]
        exact h4 i x hik hxi
      · obtain rfl:i=k:=by omega
        rw [hx] at hxi;cases hxi;rw [←h1,jl,aH (by omega)];exact hl
theorem mV (z:Array Value) (n:Nat):(Builtin.zeroCells z n).size=n * z.size:=by simp [Builtin.zeroCells]
theorem vK {E t ty:TypeId} {v:Value} {vs:List Value} {xs ys zs:List α} {z:Value} {by_:Nat} {m:Bool} {ua:Option Addr} {ucap:Nat} {nw:List Value} (k:Nat) (O:Own c G F) (hk:F[k]? = some (es m R v E vs xs)) (h:OA R c v vs xs)
    (n1:nw.length=ys.length * R.size) (n2:ys≠ []→∃ub uo,ua=some ⟨ub,uo,none⟩∧∀j w,nw[j]? = some w→c.w.cell? ⟨ub,uo+j,none⟩=some w) (n3:∀w∈nw,w.oneCell'=true) (n4:∀i x,ys[i]? = some x→R.cells c ((nw.drop (i * R.size)).take R.size) x) (happ:app xs ys=some zs)
    (hT:P.underlying t=some (.slice E)) (hi:(P.info? E).map (fun i=>(i.zero,i.size,i.bytes))=some (some z,R.size,by_)) (hz:z.cells.size=R.size) (hby:Nat.ble by_ 128=true):
    ∃v' c',(Builtin.append_ #[t,t] ty #[v,.slice ua ys.length ucap]).run P c.w= .ok v' c'.w∧c.le c'∧∃vs',Own c' G (F.set k (es m R v' E vs' zs))∧OA R c' v' vs' zs:=by
  have hby:=bE hby;have hfar:xs.length+ys.length≤far∧xs++ys=zs:=by
    unfold app at happ;split at happ
    · exact ⟨by assumption,by simpa using happ⟩
    · cases happ
  obtain ⟨hfar,rfl⟩:=hfar;unfold far at hfar;obtain ⟨ti,hti,hzz⟩:=Option.map_eq_some_iff.1 hi;simp only [fM] at hzz;obtain ⟨hz1,hz2,hz3⟩:=hzz;have hon:=O.on k hk;have hklt:=(List.getElem?_eq_some_iff.1 hk).1;have hh:=h;obtain ⟨hp,h1,h2⟩:=h;by_cases hys:ys= []
  · subst hys
    refine ⟨v,c,?_,Cx.le.refl c,vs,?_,by rw [da]; exact hh⟩
    · rcases h1 with ⟨rfl,rfl⟩ | ⟨g,cap,rfl,hcap,_⟩
      · cases ua <;> simp [Builtin.append_,bL hT,sizeOf,typeInfo,hti,Builtin.lenOf,Builtin.firstCells,loadCells,loadCellsFrom,storeCells]
      · cases ua <;> simp [Builtin.append_,bL hT,sizeOf,typeInfo,hti,Builtin.lenOf,Builtin.firstCells,loadCells,loadCellsFrom,storeCells,hcap]
    · rw [da]
      have:F.set k (es m R v E vs xs)=F:=by
        apply be;intro j;by_cases hj:k=j
        · subst hj; rw [bh hklt,hk]
        · rw [aQ hj]
      rw [this]; exact O
  · have hpos:0 < ys.length:=by
      rcases kO ys.length with h | h
      · exact absurd (ck h) hys
      · exact h
    obtain ⟨ub,uo,hua,n5⟩:=n2 hys;subst hua;have hcells:∀j w,nw[j]? = some w→c.w.cell? ((⟨ub,uo,none⟩:Addr).add j)=some w:=fun j w hw=>by
      rw [dG];exact n5 j w hw
    have hN:(xs++ys).length=xs.length+ys.length:=av;have hxl:=h2.len hp;have helem:∀(c':Cx) (tail:List Value),c.le c'→AR R c' (vs.take (xs.length * R.size)++nw++tail) (xs++ys):=fun c' tail hcc i x hx=>by
      have hlt:(vs.take (xs.length * R.size)).length=xs.length * R.size:=by rw [az]; omega
      rcases aG i xs.length with hi' | hi'
      · have hm:=iI (s:=R.size) hi'
        rw [aF,fN (by rw [hlt]; exact hm)];rw [aB hi'] at hx;have:=h2 i x hx;rw [fX,ku,show min R.size (xs.length * R.size - i * R.size)=R.size by omega];exact R.mono hcc this
      · rw [aY hi'] at hx
        have h4:=n4 _ _ hx;have hiy:=iI (s:=R.size) (List.getElem?_eq_some_iff.1 hx).1;have e:i * R.size=xs.length * R.size+(i - xs.length) * R.size:=by rw [←eu]; congr 1; omega
        have e2:(vs.take (xs.length * R.size)++(nw++tail)).drop (xs.length * R.size)=nw++tail:=by
          conv=>lhs; arg 1; rw [←hlt]
          exact jl
        rw [aF,e,←de,e2,fN (by rw [n1]; omega)];exact R.mono hcc h4
    have hbytes:(xs.length+ys.length) * ti.bytes≤140737488355328:=by
      rw [hz3];exact dd (Nat.mul_le_mul hfar hby) (by decide)
    have fresh:∀old,old < xs.length+ys.length→
        ∃v' c',Result.ok (α:=Value) (.slice (some ⟨c.w.heap.size,0,none⟩) (xs.length+ys.length) (grownCap c.w (xs.length+ys.length) old E)) (c.w.drew.alloc (.cells ((vs.take (xs.length * R.size)).toArray++nw.toArray++Builtin.zeroCells z.cells (grownCap c.w (xs.length+ys.length) old E - (xs.length+ys.length))) E))= .ok v' c'.w∧c.le c'∧
        ∃vs',Own c' G (F.set k (es m R v' E vs' (xs++ys)))∧OA R c' v' vs' (xs++ys):=by
      intro old ho;have hge:=AM c.w (xs.length+ys.length) old E;have hcm:grownCap c.w (xs.length+ys.length) old E≤maxLen:=qp c.w _ old E (by unfold maxLen; omega);have hd:=Cx.drew_le c;obtain ⟨c',e1,e2,e3,e4,e5⟩:=Cx.new ⟨c.w.drew,c.A,c.t⟩ ((vs.take (xs.length * R.size))++nw++(Builtin.zeroCells z.cells (grownCap c.w (xs.length+ys.length) old E - (xs.length+ys.length))).toList) E (cond m 0 ((xs++ys).length * R.size));have ea:((vs.take (xs.length * R.size))++nw++(Builtin.zeroCells z.cells (grownCap c.w (xs.length+ys.length) old E - (xs.length+ys.length))).toList).toArray=(vs.take (xs.length * R.size)).toArray++nw.toArray++Builtin.zeroCells z.cells (grownCap c.w (xs.length+ys.length) old E - (xs.length+ys.length)):=by
        apply D7; simp
      refine ⟨.slice (some ⟨c.w.heap.size,0,none⟩) (xs.length+ys.length) (grownCap c.w (xs.length+ys.length) old E),c',by rw [e1,ea],hd.le.trans e2.le,(vs.take (xs.length * R.size))++nw++(Builtin.zeroCells z.cells (grownCap c.w (xs.length+ys.length) old E - (xs.length+ys.length))).toList,Own.set (O.keep hd) k hk e2 (fun b (h:False)=>h.elim) (fun b hb=>?_) (fun b hb=>?_),hp,.inr ⟨c.w.heap.size,_,by rw [hN],by rw [hN]; exact hge,hcm,?_⟩,?_⟩
      · simp only [es,blk,aK] at hb; subst hb; exact ⟨e3,e5⟩
      · simp only [es,blk,aK] at hb; subst hb; exact .inr (ay _)
      · simp only [av,wm,mV,hz,n1,az]
        have:grownCap c.w (xs.length+ys.length) old E * R.size=xs.length * R.size+ys.length * R.size+(grownCap c.w (xs.length+ys.length) old E - (xs.length+ys.length)) * R.size:=by
          rw [←eu,←eu]; congr 1; omega
        rw [this,cC hxl];exact ay _
      · exact helem c' _ (hd.le.trans e2.le)
    rcases h1 with ⟨rfl,rfl⟩ | ⟨g,cap,rfl,hnc,hcm,hcs⟩
    · have hr:=run_append_nil (P:=P) c.w t ty E ti z hT hti hz1 ⟨ub,uo,none⟩ ys.length ucap nw (by rw [n1,hz2]) hcells hpos (by simp at hfar; omega) (by have:=hbytes; simp at this; omega)
      have:=fresh 0 (by simpa using hpos);simp only [bd,gI,qd,fW,xO,bN] at this hr⊢;rw [hr];simpa using this
    · obtain ⟨hg,hA⟩:=hon g rfl
      by_cases hroom:xs.length+ys.length≤cap
      · have hfit:xs.length * R.size+nw.length≤vs.length:=by
          rw [n1,←eu];exact dd (gW _ hroom) hcs
        have hr:=Bp (P:=P) c.w t ty E ti hT hti g xs.length cap vs.toArray hg ⟨ub,uo,none⟩ ys.length ucap nw (by rw [n1,hz2]) hcells n3 hroom (by rw [hz2]; simpa using hfit);rw [hz2] at hr;simp only at hr;obtain ⟨c',e1,e2,e3,e4⟩:=Cx.row (m:=vs.take (xs.length * R.size)++nw++vs.drop (xs.length * R.size+nw.length)) hg _ hA (fun o ho=>by
          have ho:o < xs.length * R.size:=by
            cases m
            · exact ho
            · exact absurd ho (uf _)
          rw [aF,aB (by rw [az]; omega),aN,ae ho];rfl) (cond m 0 ((xs++ys).length * R.size)) (by
            cases m
            · simp only [es,Dy]; exact gW _ (by rw [hN]; omega)
            · exact ay _)
        refine ⟨.slice (some ⟨g,0,none⟩) (xs.length+ys.length) cap,c',by rw [hr,e1],e2.le,vs.take (xs.length * R.size)++nw++vs.drop (xs.length * R.size+nw.length),Own.set O k hk e2 (fun b h=>by subst h; rfl) (fun b hb=>?_) (fun b hb=> .inl hb),hp,.inr ⟨g,cap,by rw [hN],by rw [hN]; exact hroom,hcm,?_⟩,helem c' _ e2.le⟩
        · simp only [es,blk,aK] at hb; subst hb; exact ⟨e3,e4⟩
        · simp only [av,bm,az]
          omega
      · have vg:∀j w,(vs.take (xs.length * R.size))[j]? = some w→c.w.cell? ((⟨g,0,none⟩:Addr).add j)=some w:=fun j w hw=>by
          rw [dG,gI,iV _ _ _ _ _ _ hg,bV];rw [aN] at hw;split at hw
          · exact hw
          · cases hw
        have hr:=Jk (P:=P) c.w t ty E ti z hT hti hz1 ⟨g,0,none⟩ xs.length cap (vs.take (xs.length * R.size)) (by rw [az,hz2]; omega) vg ⟨ub,uo,none⟩ ys.length ucap nw (by rw [n1,hz2]) hcells (by omega) (by omega) (Dc (by omega) hbytes);rw [hr];exact fresh cap (by omega)
theorem Cb {E t ty:TypeId} {v u:Value} {vs:List Value} {xs ys zs:List α} {z:Value} {by_:Nat} {m:Bool} (k:Nat) (O:Own c G F) (hk:F[k]? = some (es m R v E vs xs)) (h:OA R c v vs xs) (hS:Sl R c u ys) (happ:app xs ys=some zs)
    (hT:P.underlying t=some (.slice E)) (hi:(P.info? E).map (fun i=>(i.zero,i.size,i.bytes))=some (some z,R.size,by_)) (hz:z.cells.size=R.size) (hby:Nat.ble by_ 128=true):
    ∃v' c',(Builtin.append_ #[t,t] ty #[v,u]).run P c.w= .ok v' c'.w∧c.le c'∧∃vs',Own c' G (F.set k (es m R v' E vs' zs))∧OA R c' v' vs' zs:=by
  obtain ⟨nw,n1,n2,n3,n4⟩:=hS.flat;obtain ⟨ua,ucap,rfl,hu1,hu2,hu3⟩:=hS;refine vK k O hk h n1 (fun hys=>?_) n3 n4 happ hT hi hz hby;have hpos:0 < ys.length:=by
    rcases kO ys.length with h | h
    · exact absurd (ck h) hys
    · exact h
  obtain ⟨ub,uo,_,hua,_⟩:=hu3 0 ys[0] (af hpos);subst hua;exact ⟨ub,uo,rfl,fun j w hw=>(n2 j w hw).cell⟩
end
end Go.Lt
namespace Go.Lt
section
variable {P:Program} {c c':Cx} {G:Gm} {F:List En} {α:Type} {R:Rp α} {ρ:Operand→Value} {o:Oper}
variable {n:Fr} {ops:Array Oper} {Q:Exit→(Nat→Value)→World→Prop} {rest:List Oper} {e:Nat→Value} {D:List Nat} {K:Cx→Prop} {l:List Oper} {fuel:Nat} {li:List Bool}
theorem WL.mem {X:Value→Cx→Prop} (hg:o.guard=none) (hr:∃v c',(execOp (ev n e) o).run P c.w= .ok (.value v) c'.w∧c.le c'∧X v c')
  (h:∀v c',c.le c'→X v c'→WL P ops n Q rest (upO e o.dst v) c'.w):WL P ops n Q (o :: rest) e c.w:=by
 obtain ⟨v,c',h1,h2,h3⟩:=hr;exact WL.val hg h1 (h v c' h2 h3)
theorem WL.memD {X:Cx→Prop} (hg:o.guard=none) (hr:∃c',(execOp (ev n e) o).run P c.w= .ok .skip c'.w∧c.le c'∧X c')
  (h:∀c',c.le c'→X c'→WL P ops n Q rest (upO e o.dst undef) c'.w):WL P ops n Q (o :: rest) e c.w:=by
 obtain ⟨c',h1,h2,h3⟩:=hr;exact WL.do_ hg h1 (h c' h2 h3)
theorem Go1.mem (i:Nat) {X:Value→Cx→Prop} (hi:l.toArray[i]? = some o) (hsl:fi n l=true) (hw:iG l.toArray n e o=true) (hr:∃v c',(execOp (ev n e) o).run P c.w= .ok (.value v) c'.w∧c.le c'∧X v c')
  (h:∀v c',c.le c'→X v c'→(D.contains i=true∨K c')∧AC D K P l n Q fuel (li.set i true) (upO e o.dst v) c'):Go1 D K P l n Q fuel li e c i:=by
 obtain ⟨v,c',h1,h2,h3⟩:=hr;have:=h v c' h2 h3;exact Go1.val hi hsl hw h1 h2 this.1 this.2
theorem Go1.memD (i:Nat) {X:Cx→Prop} (hi:l.toArray[i]? = some o) (hsl:fi n l=true) (hw:iG l.toArray n e o=true) (hr:∃c',(execOp (ev n e) o).run P c.w= .ok .skip c'.w∧c.le c'∧X c')
  (h:∀c',c.le c'→X c'→(D.contains i=true∨K c')∧AC D K P l n Q fuel (li.set i true) (upO e o.dst undef) c'):Go1 D K P l n Q fuel li e c i:=by
 obtain ⟨c',h1,h2,h3⟩:=hr;have:=h c' h2 h3;exact Go1.do_ hi hsl hw h1 h2 this.1 this.2
theorem Go1.callP (i:Nat) {f:FuncId} {args:Array Value} {X:Cx→Value→Prop} (hi:l.toArray[i]? = some o) (hsl:fi n l=true) (hw:iG l.toArray n e o=true)
  (hrun:(execOp (ev n e) o).run P c.w= .ok (.enter f args) c.w) (hc:Calls P f args c.w (aP c X))
  (h:∀v c',c.le c'→X c' v→(D.contains i=true∨K c')∧AC D K P l n Q fuel (li.set i true) (upO e o.dst v) c'):Go1 D K P l n Q fuel li e c i:=Go1.call hi hsl hw hrun hc h
theorem AC.one (i:Nat) (hr:Region.ready .any l.toArray li.toArray= [i]) (h:Go1 D K P l n Q fuel li e c i):AC D K P l n Q (fuel+1) li e c:=AC.many [i] (by simp) hr ⟨h,trivial⟩
theorem Sl.form {v:Value} {xs:List α} (h:Sl R c v xs):∃a n k,v= .slice a n k:=by
 obtain ⟨a,cap,h,_⟩:=h; exact ⟨_,_,_,h⟩
theorem OA.form {v:Value} {vs:List Value} {xs:List α} (h:OA R c v vs xs):∃a n k,v= .slice a n k:=by
 rcases h.2.1 with ⟨h,_⟩ | ⟨g,cap,h,_⟩ <;> exact ⟨_,_,_,h⟩
theorem Pt.form {g:Nat} {v:Value} {p:Option Nat} (h:Pt g c v p):∃a,v= .pointer a:=by
 cases p with
 | none=>exact ⟨_,h⟩
 | some p=>obtain ⟨b,h,_⟩:=h; exact ⟨_,h⟩
theorem va (v:Value) {w:World} (h:WL P ops n Q rest (upO e o.dst v) w) (hg:o.guard=none:=by exact rfl) (hr:(execOp (ev n e) o).run P w= .ok (.value v) w:=by kernel_rfl):WL P ops n Q (o :: rest) e w:=WL.val0 hg hr h
theorem vb {t b:Bool} {w:World} (ht:t=b) (h:WL P ops n Q rest (upO e o.dst (.bool b)) w) (hg:o.guard=none:=by exact rfl) (hr:(execOp (ev n e) o).run P w= .ok (.value (.bool t)) w:=by kernel_rfl):WL P ops n Q (o :: rest) e w:=WL.valb0 ht hg hr h
theorem ps {l:List Oper} {w:World} (h:WL P l.toArray n Q rest (upO e o.dst undef) w) (hs:fi n l=true:=by kernel_rfl) (hw:iG l.toArray n e o=false:=by kernel_rfl):WL P l.toArray n Q (o :: rest) e w:=WL.pass hs hw h
theorem wn {l:List Oper} {w:World} (h:WL P l.toArray n Q ({ o with guard:=none} :: rest) e w) (hs:fi n l=true:=by kernel_rfl) (hw:iG l.toArray n e o=true:=by kernel_rfl):WL P l.toArray n Q (o :: rest) e w:=WL.want hs hw h
theorem ta (i:Nat) (v:Value) (h:AC D K P l n Q fuel (li.set i true) (upO e o.dst v) c) (hi:l.toArray[i]? = some o:=by exact rfl) (ht:tk l n li i=true:=by kernel_rfl) (hw:iG l.toArray n e o=true:=by kernel_rfl)
  (hy:∀w,(execOp (ev n e) o).run P w= .ok (.value v) w:=by intro w; kernel_rfl):AC D K P l n Q (fuel+1) li e c:=AC.take i v hi ht hw (fun c' _=>hy c'.w) h
theorem sr {b:Code} {id:Nat} {l:List Oper} {w:World} (h:WL P l.toArray n (qg (W P n b Q) Q) l e w):W P n ((Code.region id l.toArray false).seq b) Q e w:=W.seq (W.region h)
theorem wln {K:(Nat→Value)→World→Prop} {Q:Exit→(Nat→Value)→World→Prop} {w:World} (h:K e w):WL P ops n (qg K Q) [] e w:=WL.nil (nrm h)
theorem vv {o':Oper} (v:Value) {w:World} (h:WL P ops n Q rest (upO (upO e o.dst v) o'.dst v) w) (hg:o.guard=none:=by exact rfl) (hr:(execOp (ev n e) o).run P w= .ok (.value v) w:=by kernel_rfl) (hg':o'.guard=none:=by exact rfl) (hr':(execOp (ev n (upO e o.dst v)) o').run P w= .ok (.value v) w:=by kernel_rfl):WL P ops n Q (o :: o' :: rest) e w:=va v (va v h hg' hr') hg hr
theorem wa {l:List Oper} (v:Value) {w:World} (h:WL P l.toArray n Q rest (upO e o.dst v) w) (hs:fi n l=true:=by kernel_rfl) (hw:iG l.toArray n e o=true:=by kernel_rfl) (hr:(execOp (ev n e) { o with guard:=none}).run P w= .ok (.value v) w:=by kernel_rfl):WL P l.toArray n Q (o :: rest) e w:=wn (va v h rfl hr) hs hw
theorem pz {l:List Oper} {o':Oper} {w:World} (h:WL P l.toArray n Q rest (upO (upO e o.dst undef) o'.dst undef) w) (hs:fi n l=true:=by kernel_rfl) (hw:iG l.toArray n e o=false:=by kernel_rfl) (hw':iG l.toArray n (upO e o.dst undef) o'=false:=by kernel_rfl):WL P l.toArray n Q (o :: o' :: rest) e w:=ps (ps h hs hw') hs hw
theorem OA.blk {v:Value} {vs:List Value} {xs:List α} {i:Int} {x:α} (h:OA R c v vs xs) (hi:idx xs i=some x):Go.Lt.blk v=some (sb v):=by
 rcases h.2.1 with ⟨_,rfl⟩ | ⟨g,cap,rfl,_⟩
 ·have:=tE hi; simp at this; omega
 ·rfl
theorem zw {v:Value} {vs:List Value} {xs:List α} {T E:TypeId} {k:IntKind} {i:Int} {x:α} (hT:P.underlying T=some (.slice E)) (hE:(P.info? E).map (·.size)=some R.size)
  (h:OA R c v vs xs) (hi:idx xs i=some x) (w:World):(Instr.indexAt T v (.int k i)).run P w= .ok (.pointer (some ⟨sb v,i.toNat * R.size,none⟩)) w:=by
 obtain ⟨h1,h2⟩:=tE hi;rcases h.2.1 with ⟨_,rfl⟩ | ⟨g,cap,rfl,_⟩
 ·simp at h2; omega
 ·obtain ⟨ti,hti,hsz⟩:=Option.map_eq_some_iff.1 hE;simp [Instr.indexAt,asIntOf,bL hT,h1,h2,sizeOf,typeInfo,hti,hsz,sb,dG]
theorem OA.at {v:Value} {vs:List Value} {xs:List α} {i:Int} {x:α} (h:OA R c v vs xs) (hi:idx xs i=some x):∃l,R.cells c l x∧(vs.drop (i.toNat * R.size)).take R.size=l:=⟨_,h.2.2 _ _ (aR hi),rfl⟩
theorem at1 {vs l:List Value} {p n j:Nat} {u:Value} (h:(vs.drop p).take n=l) (hj:l[j]? = some u):vs[p+j]? = some u:=by
 subst h;rw [aN] at hj;split at hj
 ·rwa [bP] at hj
 ·cases hj
theorem at2 {vs l l':List Value} {p n j:Nat} (h:(vs.drop p).take n=l) (hj:(l.drop j).take l'.length=l'):(vs.drop (p+j)).take l'.length=l':=by
 subst h
 conv=>rhs; rw [←hj]
 rw [fX,de,ku];have h1:=mM List.length hj;rw [fX,de,ku,az] at h1
 congr 1
 omega
theorem Own.stO {T E:TypeId} {v:Value} {vs:List Value} {xs xs':List α} {i:Int} {x x':α} {j:Nat} {us l l':List Value} {u:Value} (k:Nat) (O:Own c G F) (hx:execOp ρ o=(do Instr.storeAt T (.pointer (some ⟨sb v,i.toNat * R.size+j,none⟩)) u; pure Next.skip:Sem Next))
  (hk:F[k]? = some (es true R v E vs xs)) (h:OA R c v vs xs) (hset:nT xs i x'=some xs') (hm:(vs.drop (i.toNat * R.size)).take R.size=l) (hv:u.cells.toList=us) (hs:(P.info? T).map (·.size)=some us.length) (h1:mb us)
  (hl:Nat.ble (j+us.length) R.size=true) (hn:l.take j++us++l.drop (j+us.length)=l') (hx':R.cells c l' x'):
  ∃c',(execOp ρ o).run P c.w= .ok .skip c'.w∧c.le c'∧∃vs',Own c' G (F.set k (es true R v E vs' xs'))∧OA R c' v vs' xs':=by
 have hl:=bE hl;unfold nT at hset;split at hset
 ·rename_i hi
  cases hset;have hbk:Go.Lt.blk v=some (sb v):=by
   rcases h.2.1 with ⟨_,rfl⟩ | ⟨g,cap,rfl,_⟩
   ·exfalso; simp at hi; omega
   ·rfl
  have hp:=h.1;have hxl:=h.2.2.len hp;have hms:=iI (s:=R.size) (show i.toNat < xs.length by omega);obtain ⟨c',r1,r2,r3⟩:=stE (P:=P) (T:=T) (o:=i.toNat * R.size+j) (O.on k hk) hbk rfl hv hs h1 (by simp only [es]; omega);have hlen:(vs.take (i.toNat * R.size+j)++us++vs.drop (i.toNat * R.size+j+us.length)).length=vs.length:=by
   simp only [av,az,bm]; omega
  refine ⟨c',by rw [hx]; exact rs r1,r2.le,_,O.set k hk r2 (fun b hb=>by rw [hb]; exact hbk) (e':=es true R v E (vs.take (i.toNat * R.size+j)++us++vs.drop (i.toNat * R.size+j+us.length)) (xs.set i.toNat x')) r3 (fun b h=> .inl h),hp,?_,fun q y hy=>?_⟩
  ·rcases h.2.1 with ⟨_,rfl⟩ | ⟨g,cap,h2,h3,h4,h5⟩
   ·exfalso; simp at hi; omega
   ·exact .inr ⟨g,cap,by rw [cp]; exact h2,by rw [cp]; exact h3,h4,by rw [hlen]; exact h5⟩
  ·by_cases hq:q=i.toNat
   ·subst hq;rw [bh (by omega)] at hy;cases hy;have:((vs.take (i.toNat * R.size+j)++us++vs.drop (i.toNat * R.size+j+us.length)).drop (i.toNat * R.size)).take R.size=l':=by
     rw [←hn,←hm];rw [aF,gX (by rw [az]; omega),fX];have e1:i.toNat * R.size+j - i.toNat * R.size=j:=by omega
     rw [e1,ku,cC (by omega),aF,fX,de,Ae,Ae];have h6:((vs.drop (i.toNat * R.size)).take j).length=j:=by rw [az,bm]; omega
     rw [h6,aH (by omega),aH (l:=us) (by omega)]
     congr 2
     rw [rO]
     congr 1
     omega
    rw [this];exact R.mono r2.le hx'
   ·rw [aQ (tO hq)] at hy;have hold:=h.2.2 q y hy;have hqm:=iI (s:=R.size) (List.getElem?_eq_some_iff.1 hy).1;have:((vs.take (i.toNat * R.size+j)++us++vs.drop (i.toNat * R.size+j+us.length)).drop (q * R.size)).take R.size=(vs.drop (q * R.size)).take R.size:=by
     rcases aG q i.toNat with hlt | hge
     ·have:=iI (s:=R.size) hlt;rw [aF,fN (by rw [az]; omega),fX,ku,cC (by omega)]
     ·have:=iI (s:=R.size) (show i.toNat < q by omega);have h7:(vs.take (i.toNat * R.size+j)++us).length=i.toNat * R.size+j+us.length:=by rw [av,az]; omega
      rw [show q * R.size=(vs.take (i.toNat * R.size+j)++us).length+(q * R.size - (i.toNat * R.size+j+us.length)) by omega,←de,jl,de]
      congr 2
      omega
    rw [this];exact R.mono r2.le hold
 ·cases hset
theorem Own.stW {T E:TypeId} {v:Value} {vs:List Value} {xs xs':List α} {i:Int} {x':α} {us:List Value} {u:Value} (k:Nat) (O:Own c G F) (hx:execOp ρ o=(do Instr.storeAt T (.pointer (some ⟨sb v,i.toNat * R.size,none⟩)) u; pure Next.skip:Sem Next))
  (hk:F[k]? = some (es true R v E vs xs)) (h:OA R c v vs xs) (hset:nT xs i x'=some xs') (hv:u.cells.toList=us) (hs:(P.info? T).map (·.size)=some us.length) (h1:mb us) (hl:us.length=R.size) (hx':R.cells c us x'):
  ∃c',(execOp ρ o).run P c.w= .ok .skip c'.w∧c.le c'∧∃vs',Own c' G (F.set k (es true R v E vs' xs'))∧OA R c' v vs' xs':=by
 have hi:0≤i∧i < xs.length:=by
  unfold nT at hset;split at hset
  ·assumption
  ·cases hset
 have hc:=h.2.2 i.toNat xs[i.toNat] (af (by omega));have hlen:=R.len hc;refine Own.stO (x:=xs[i.toNat]) (j:=0) (us:=us) (l':=us) k O (by rw [hx]; rfl) hk h hset rfl hv hs h1 ?_ ?_ hx'
 ·rw [gI,hl]; exact nQ (ay _)
 ·rw [fW,bN,gI,G5 (by rw [hlen,hl]; exact ay _),da]
theorem Own.app {E t ty:TypeId} {v u:Value} {vs:List Value} {xs ys zs:List α} {z:Value} {by_:Nat} {m:Bool} (k:Nat) (O:Own c G F) (hk:F[k]? = some (es m R v E vs xs)) (h:OA R c v vs xs) (hS:Sl R c u ys) (happ:app xs ys=some zs)
  (hT:P.underlying t=some (.slice E)) (hi:(P.info? E).map (fun i=>(i.zero,i.size,i.bytes))=some (some z,R.size,by_)) (hz:z.cells.size=R.size) (hby:Nat.ble by_ 128=true)
  (hx:execOp ρ o=(do pure (Next.value (←Builtin.append_ #[t,t] ty #[v,u])):Sem Next)):
  ∃v' c',(execOp ρ o).run P c.w= .ok (.value v') c'.w∧c.le c'∧∃vs',Own c' G (F.set k (es m R v' E vs' zs))∧OA R c' v' vs' zs:=by
 obtain ⟨v',c',h1,h2,h3⟩:=Cb (P:=P) (t:=t) (ty:=ty) k O hk h hS happ hT hi hz hby;exact ⟨v',c',rx hx h1,h2,h3⟩
theorem zB {i:Int} {x:α} {xs:List α} (h:rep i x=some xs):i≤far:=by
 unfold rep at h;split at h
 ·rename_i h'; exact h'.2
 ·cases h
theorem Gf {i:Int} {x:α} {xs:List α} (h:rep i x=some xs):0≤i:=by
 unfold rep at h;split at h
 ·rename_i h'; exact h'.1
 ·cases h
def oo (R:Rp α) (c:Cx):List (List Value)→List α→Prop
 | [],[]=>True
 | l :: ls,x :: xs=>R.cells c l x∧oo R c ls xs
 | _,_=>False
theorem oo.len:∀{ls:List (List Value)} {xs:List α},oo R c ls xs→ls.flatten.length=xs.length * R.size
 | [],[],_=>by simp
 | l :: ls,x :: xs,h=>by
  simp only [nG,av,aI,R.len h.1,oo.len h.2,eu,nb];omega
 | [],_ :: _,h=>h.elim
 | _ :: _,[],h=>h.elim
theorem oo.get:∀{ls:List (List Value)} {xs:List α},oo R c ls xs→AR R c ls.flatten xs
 | [],[],_=>fun i x h=>by simp at h
 | l :: ls,x :: xs,h=>fun i y hy=>by
  cases i with
  | zero=>
   simp only [tb,aK] at hy;subst hy;rw [qd,nH,nG,←R.len h.1,DX];exact h.1
  | succ i=>
   simp only [fq] at hy;rw [nG,eu,nb,Nat.add_comm (i * R.size),←R.len h.1,←de,jl,R.len h.1];exact oo.get h.2 i y hy
 | [],_ :: _,h=>h.elim
 | _ :: _,[],h=>h.elim
theorem Own.newS (m:Bool) {E:TypeId} {vs:List Value} {xs:List α} {cap:Nat} (O:Own c G F) (hp:0 < R.size) (hA:AR R c vs xs) (hc:xs.length≤cap) (hm:cap≤maxLen) (hcs:cap * R.size≤vs.length)
  (hr:(execOp ρ o).run P c.w= .ok (.value (.slice (some ⟨c.w.heap.size,0,none⟩) xs.length cap)) (c.w.alloc (.cells vs.toArray E))):
  ∃v c',(execOp ρ o).run P c.w= .ok (.value v) c'.w∧c.le c'∧∃vs,Own c' G (es m R v E vs xs :: F)∧OA R c' v vs xs:=by
 obtain ⟨c',h1,h2,h3,_,h4⟩:=Cx.new c vs E (cond m 0 (xs.length * R.size));refine ⟨_,c',by rw [h1]; exact hr,h2.le,vs,O.cons h2 (fun _=>id) (fun b hb=>?_) (fun b hb=>?_),hp,.inr ⟨_,_,rfl,hc,hm,hcs⟩,hA.mono h2.le⟩
 ·simp only [es,Go.Lt.blk,aK] at hb; subst hb; exact ⟨h3,h4⟩
 ·simp only [es,Go.Lt.blk,aK] at hb; omega
theorem Own.sl (m:Bool) {E:TypeId} {ls:List (List Value)} {vs:List Value} {xs:List α} (O:Own c G F) (hp:0 < R.size) (hv:ls.flatten=vs) (hR:oo R c ls xs) (hm:Nat.ble xs.length 4294967296=true)
  (hr:(execOp ρ o).run P c.w= .ok (.value (.slice (some ⟨c.w.heap.size,0,none⟩) xs.length xs.length)) (c.w.alloc (.cells vs.toArray E))):
  ∃v c',(execOp ρ o).run P c.w= .ok (.value v) c'.w∧c.le c'∧∃vs,Own c' G (es m R v E vs xs :: F)∧OA R c' v vs xs:=by
 subst hv;have hm:=bE hm;exact Own.newS m O hp hR.get (ay _) (by unfold maxLen; omega) (by rw [hR.len]; exact ay _) hr
theorem Own.mkS (m:Bool) {E t:TypeId} {z:Value} {lz:List Value} {x:α} {xs:List α} {by_:Nat} {kl kc:IntKind} {i j:Int} (O:Own c G F) (hp:0 < R.size) (hrep:rep i x=some xs) (hij:i≤j) (hj:j≤far) (hT:P.underlying t=some (.slice E))
  (hi:(P.info? E).map (fun i=>(i.zero,i.size,i.bytes))=some (some z,R.size,by_)) (hz:z.cells.toList=lz) (hzl:lz.length=R.size) (hzx:∀c,R.cells c lz x) (hby:Nat.ble by_ 128=true)
  (hx:execOp ρ o=(do pure (Next.value (←Instr.makeSlice t (.int kl i) (.int kc j))):Sem Next)):
  ∃v c',(execOp ρ o).run P c.w= .ok (.value v) c'.w∧c.le c'∧∃vs,Own c' G (es m R v E vs xs :: F)∧OA R c' v vs xs:=by
 have hby:=bE hby;unfold rep at hrep;split at hrep
 ·rename_i h0
  cases hrep;obtain ⟨ti,hti,hzz⟩:=Option.map_eq_some_iff.1 hi;simp only [fM] at hzz;obtain ⟨hz1,hz2,hz3⟩:=hzz;unfold far at hj;have hb:(ti.bytes:Int) * j≤281474976710656:=by
   rw [hz3];have:(by_:Int) * j≤128 * 1099511627776:=Int.mul_le_mul (by omega) (by omega) (by omega) (by omega);omega
  have hr:=run_make (P:=P) c.w t E ti z hT hti hz1 kl kc i j h0.1 hij hb (by omega);have hlen:(List.replicate i.toNat x).length=i.toNat:=by simp
  have key:(madeCells z.cells (j.toNat * ti.size)).toList=(madeCells z.cells (j.toNat * ti.size)).toList:=rfl;have hget:∀q,q < j.toNat * R.size→(madeCells z.cells (j.toNat * ti.size)).toList[q]? = lz[q % R.size]? :=fun q hq=>by
   have hzs:z.cells.size=R.size:=by rw [←hzl,←hz]; simp
   have hq2:q % R.size < lz.length:=by rw [hzl]; exact DW _ hp
   have hq3:q % z.cells.size < z.cells.size:=by rw [hzs]; exact DW _ hp
   simp only [madeCells,Jj,Array.toList_range,bz,hz2,dq hq,gi];rw [←hz,←hzs,Hg,Array.getElem?_eq_getElem hq3];simp [getElem!_pos,hq3]
  refine Own.newS (vs:=(madeCells z.cells (j.toNat * ti.size)).toList) (cap:=j.toNat) m O hp (fun q y hy=>?_) (by rw [hlen]; omega) (by unfold maxLen; omega) (by simp [size_madeCells,hz2]) ?_
  ·have hy2:=List.getElem?_eq_some_iff.1 hy;obtain ⟨hq,hyx⟩:=hy2;simp at hyx;subst hyx;have hqi:q < i.toNat:=by simpa using hq
   have hm:=iI (s:=R.size) (show q < j.toNat by omega);have:((madeCells z.cells (j.toNat * ti.size)).toList.drop (q * R.size)).take R.size=lz:=by
    apply be;intro r;rw [aN];split
    ·rename_i hr
     rw [bP,hget _ (by omega),Nat.mul_comm q,Nat.mul_add_mod,Ad hr]
    ·rename_i hr
     rw [aA (by omega)]
   rw [this];exact hzx c
  ·rw [hlen];exact rx hx (by rw [hr])
 ·cases hrep
theorem Sl.cut {xs:List α} {l h m:Nat} {a:Option Addr} {cap:Nat} (hS:Sl R c (.slice a xs.length cap) xs) (h1:l≤h) (h2:h≤xs.length) (h3:h≤m) (h4:m≤cap):
  Sl R c (.slice (if m=l then a else a.map (·.add (l * R.size))) (h - l) (m - l)) ((xs.drop l).take (h - l)):=by
 obtain ⟨a',cap',hv,h5,h6,h7⟩:=hS;cases hv;have hlen:((xs.drop l).take (h - l)).length=h - l:=by rw [az,bm]; omega
 refine ⟨_,m - l,by rw [hlen],by rw [hlen]; omega,by omega,fun i x hx=>?_⟩;rw [aN] at hx;split at hx
 ·rename_i hi
  rw [bP] at hx;obtain ⟨b,off,q,rfl,hq,hc⟩:=h7 _ _ hx;have hne:m≠l:=by omega
  refine ⟨b,off+l * R.size,q,?_,hq,fun j u hu=>?_⟩
  ·rw [ab hne]; simp [dG]
  ·have:=hc j u hu
   rwa [show off+(l+i) * R.size+j=off+l * R.size+i * R.size+j by rw [eu]; omega] at this
 ·cases hx
theorem oW {xs zs:List α} {i j:Int} (h:slc xs i j=some zs):0≤i∧i≤j∧j≤xs.length∧zs=(xs.drop i.toNat).take (j - i).toNat:=by
 unfold slc at h;split at h
 ·rename_i hh
  exact ⟨hh.1,hh.2.1,hh.2.2,by simpa using h.symm⟩
 ·cases h
theorem Ef {xs zs:List α} {i j:Int} (h:slc xs i j=some zs):(zs.length:Int)=j - i:=by
 obtain ⟨h1,h2,h3,rfl⟩:=oW h;rw [az,bm];omega
theorem Et {v:Value} {xs zs:List α} {T E:TypeId} {i j:Int} {k k':IntKind} (hT:P.underlying T=some (.slice E)) (hE:(P.info? E).map (·.size)=some R.size) (h:Sl R c v xs) (hz:slc xs i j=some zs):
  ∃v',(∀w,(Instr.sliceAt T v (some (.int k i)) (some (.int k' j)) none).run P w= .ok v' w)∧Sl R c v' zs:=by
 obtain ⟨h1,h2,h3,rfl⟩:=oW hz;obtain ⟨ti,hti,hsz⟩:=Option.map_eq_some_iff.1 hE;have hh:=h;obtain ⟨a,cap,rfl,h4,h5,h6⟩:=h;have hcut:=Sl.cut (l:=i.toNat) (h:=j.toNat) (m:=cap) hh (by omega) (by omega) (by omega) (ay _);rw [show (j - i).toNat=j.toNat - i.toNat by omega];refine ⟨_,fun w=>?_,hcut⟩;have e1:0≤i∧i≤j:=⟨h1,h2⟩;have e2:0≤j∧j≤(cap:Int):=⟨by omega,by omega⟩;have e3:((j.toNat:Nat):Int)=j:=by omega
 simp [Instr.sliceAt,bL hT,Instr.slice,Instr.sliceBounds,Instr.sliceBound,asIntOf,e1,e2,e3,sizeOf,typeInfo,hti,hsz]
theorem CC {v:Value} {xs zs:List α} {T E:TypeId} {j:Int} {k':IntKind} (hT:P.underlying T=some (.slice E)) (hE:(P.info? E).map (·.size)=some R.size) (h:Sl R c v xs) (hz:slc xs 0 j=some zs):
  ∃v',(∀w,(Instr.sliceAt T v none (some (.int k' j)) none).run P w= .ok v' w)∧Sl R c v' zs:=by
 obtain ⟨h1,h2,h3,rfl⟩:=oW hz;obtain ⟨ti,hti,hsz⟩:=Option.map_eq_some_iff.1 hE;have hh:=h;obtain ⟨a,cap,rfl,h4,h5,h6⟩:=h;have hcut:=Sl.cut (l:=0) (h:=j.toNat) (m:=cap) hh (by omega) (by omega) (by omega) (ay _);rw [show (j - 0).toNat=j.toNat - 0 by omega];refine ⟨_,fun w=>?_,hcut⟩;have e2:0≤j∧j≤(cap:Int):=⟨by omega,by omega⟩;simp [Instr.sliceAt,bL hT,Instr.slice,Instr.sliceBounds,Instr.sliceBound,asIntOf,e2,sizeOf,typeInfo,hti]
theorem Own.cutH {v:Value} {vs:List Value} {xs zs:List α} {T E:TypeId} {j:Int} {k':IntKind} (k:Nat) (O:Own c G F) (hk:F[k]? = some (es true R v E vs xs)) (hT:P.underlying T=some (.slice E)) (h:OA R c v vs xs) (hE:(P.info? E).map (·.size)=some R.size) (hz:slc xs 0 j=some zs):
  ∃v',(∀w,(Instr.sliceAt T v none (some (.int k' j)) none).run P w= .ok v' w)∧Own c G (F.set k (es true R v' E vs zs))∧OA R c v' vs zs:=by
 obtain ⟨h1,h2,h3,rfl⟩:=oW hz;obtain ⟨ti,hti,hsz⟩:=Option.map_eq_some_iff.1 hE;have hlen:((xs.drop (0:Int).toNat).take (j - 0).toNat).length=j.toNat:=by simp; omega
 have hAR:AR R c vs ((xs.drop (0:Int).toNat).take (j - 0).toNat):=fun i x hx=>by
  rw [aN] at hx;split at hx
  ·simp at hx; exact h.2.2 i x hx
  ·cases hx
 rcases h.2.1 with ⟨rfl,rfl⟩ | ⟨g,cap,rfl,h4,h5,h6⟩
 ·obtain rfl:j=0:=by simp at h3; omega
  refine ⟨.slice none 0 0,fun w=>?_,?_,?_⟩
  ·simp [Instr.sliceAt,bL hT,Instr.slice,Instr.sliceBounds,Instr.sliceBound,asIntOf,sizeOf,typeInfo,hti]
  ·have:F.set k (es true R (.slice none 0 0) E vs (([]:List α).drop (0:Int).toNat |>.take (0 - 0:Int).toNat))=F:=by
    apply be;intro q;by_cases hq:k=q
    ·subst hq; rw [bh (List.getElem?_eq_some_iff.1 hk).1,hk]; rfl
    ·rw [aQ hq]
   rw [this]; exact O
  ·exact ⟨h.1,.inl ⟨rfl,by simp⟩,hAR⟩
 ·refine ⟨.slice (some ⟨g,0,none⟩) j.toNat cap,fun w=>?_,?_,h.1,.inr ⟨g,cap,by rw [hlen],by rw [hlen]; omega,h5,h6⟩,hAR⟩
  ·have e2:0≤j∧j≤(cap:Int):=⟨by omega,by omega⟩;simp [Instr.sliceAt,bL hT,Instr.slice,Instr.sliceBounds,Instr.sliceBound,asIntOf,e2,sizeOf,typeInfo,hti,Addr.add]
  ·refine O.set k hk (D:=fun _=>False) ⟨Cx.le.refl c,rfl,fun _ _ _=>⟨rfl,fun _=>Ja⟩⟩ (fun b (h:False)=>h.elim) (fun b hb=>?_) (fun b hb=> .inl hb);exact O.on k hk b hb
theorem Own.cutHM {v:Value} {vs:List Value} {xs zs:List α} {T E:TypeId} {j:Int} {k' k2:IntKind} (k:Nat) (O:Own c G F) (hk:F[k]? = some (es true R v E vs xs)) (hT:P.underlying T=some (.slice E)) (h:OA R c v vs xs) (hE:(P.info? E).map (·.size)=some R.size) (hz:slc xs 0 j=some zs):
  ∃v',(∀w,(Instr.sliceAt T v none (some (.int k' j)) (some (.int k2 j))).run P w= .ok v' w)∧Own c G (F.set k (es true R v' E vs zs))∧OA R c v' vs zs:=by
 obtain ⟨h1,h2,h3,rfl⟩:=oW hz;obtain ⟨ti,hti,hsz⟩:=Option.map_eq_some_iff.1 hE;have hlen:((xs.drop (0:Int).toNat).take (j - 0).toNat).length=j.toNat:=by simp; omega
 have hAR:AR R c vs ((xs.drop (0:Int).toNat).take (j - 0).toNat):=fun i x hx=>by
  rw [aN] at hx;split at hx
  ·simp at hx; exact h.2.2 i x hx
  ·cases hx
 rcases h.2.1 with ⟨rfl,rfl⟩ | ⟨g,cap,rfl,h4,h5,h6⟩
 ·obtain rfl:j=0:=by simp at h3; omega
  refine ⟨.slice none 0 0,fun w=>?_,?_,?_⟩
  ·simp [Instr.sliceAt,bL hT,Instr.slice,Instr.sliceBounds,Instr.sliceBound,asIntOf,sizeOf,typeInfo,hti]
  ·have:F.set k (es true R (.slice none 0 0) E vs (([]:List α).drop (0:Int).toNat |>.take (0 - 0:Int).toNat))=F:=by
    apply be;intro q;by_cases hq:k=q
    ·subst hq; rw [bh (List.getElem?_eq_some_iff.1 hk).1,hk]; rfl
    ·rw [aQ hq]
   rw [this]; exact O
  ·exact ⟨h.1,.inl ⟨rfl,by simp⟩,hAR⟩
 ·refine ⟨.slice (some ⟨g,0,none⟩) j.toNat j.toNat,fun w=>?_,?_,h.1,.inr ⟨g,j.toNat,by rw [hlen],by rw [hlen]; omega,by omega,?_⟩,hAR⟩
  ·have e2:0≤j∧j≤(cap:Int):=⟨by omega,by omega⟩;simp [Instr.sliceAt,bL hT,Instr.slice,Instr.sliceBounds,Instr.sliceBound,asIntOf,e2,sizeOf,typeInfo,hti,Addr.add];omega
  ·refine O.set k hk (D:=fun _=>False) ⟨Cx.le.refl c,rfl,fun _ _ _=>⟨rfl,fun _=>Ja⟩⟩ (fun b (h:False)=>h.elim) (fun b hb=>?_) (fun b hb=> .inl hb);exact O.on k hk b hb
  ·have:=gW R.size (show j.toNat≤cap by omega);omega
theorem Pt.cs {g:Nat} {v:Value} {p:Option Nat} (h:Pt g c v p):(v= .pointer none∧p.isNone=true)∨∃b,v= .pointer (some ⟨b,0,none⟩)∧p.isNone=false:=by
 cases p with
 | none=>exact .inl ⟨h,rfl⟩
 | some p=>obtain ⟨b,h,_⟩:=h; exact .inr ⟨b,h,rfl⟩
theorem RE.cs {S T:TypeId} {v:Value} {e:Er} (h:RE S T c v e):(v= .nilIface∧e.isNil=true)∨(∃a,v= .iface S (.pointer (some a))∧e.isNil=false)∨∃b,v= .iface T (.pointer (some ⟨b,0,none⟩))∧e.isNil=false:=by
 cases e with
 | nil=>exact .inl ⟨h,rfl⟩
 | sent g=>obtain ⟨b,h,_⟩:=h; exact .inr (.inl ⟨b,h,rfl⟩)
 | fault i e=>obtain ⟨b,u,h,_⟩:=h; exact .inr (.inr ⟨b,h,rfl⟩)
theorem RE.cs3 {S T:TypeId} {v:Value} {e:Er} (h:RE S T c v e):v= .nilIface∨∃t a,v= .iface t (.pointer a):=by
 rcases h.cs with ⟨h,_⟩ | ⟨b,h,_⟩ | ⟨b,h,_⟩
 ·exact .inl h
 ·exact .inr ⟨_,_,h⟩
 ·exact .inr ⟨_,_,h⟩
def eF (G G':Gm):Prop:=∀g k,G g k≠ []→G' g k=G g k
theorem eF.refl (G:Gm):eF G G:=fun _ _ _=>rfl
theorem eF.trans {a b c:Gm} (h:eF a b) (k:eF b c):eF a c:=fun g i hi=>(k g i (by rw [h g i hi]; exact hi)).trans (h g i hi)
theorem eF.get {G G':Gm} {g k:Nat} {e:En} {l:List En} (h:eF G G') (hE:G g k=e :: l):G' g k=e :: l:=(h g k (by rw [hE]; exact Jh _ _)).trans hE
theorem eF.nil {G G':Gm} {g k:Nat} (h:eF G G') (hE:G' g k= []):G g k= []:=by
 by_cases hn:G g k= []
 ·exact hn
 ·rw [h g k hn] at hE; exact hE
theorem Kp.adds {G G':Gm} (O:Own c G' F) (h:eF G G'):Kp G [] c:=fun i e hi=>by
 cases i with
 | inl i=>simp [at_] at hi
 | inr i=>
  obtain ⟨g,k,r⟩:=i;simp only [at_] at hi;have hne:G g k≠ []:=fun e=>by rw [e] at hi; simp at hi
  rw [←h g k hne] at hi;exact O.gon rfl r hi
theorem Own.stGB {T:TypeId} {e:En} {b j:Nat} {us nw:List Value} {v:Value} {g k:Nat} {E:List En} (r:Nat) (O:Own c (jz G g k E) F) (hx:execOp ρ o=(do Instr.storeAt T (.pointer (some ⟨b,j,none⟩)) v; pure Next.skip:Sem Next)) (hr:E[r]? = some e) (hb:Go.Lt.blk e.v=some b) (hlim:e.lim=0)
  (hv:v.cells.toList=us) (hs:(P.info? T).map (·.size)=some us.length) (h1:mb us) (hl:Nat.ble (j+us.length) e.vs.length=true) (hn:e.vs.take j++us++e.vs.drop (j+us.length)=nw):
  ∃c',(execOp ρ o).run P c.w= .ok .skip c'.w∧c.le c'∧Own c' (jz G g k (E.set r ⟨e.v,e.T,nw,0⟩)) F:=by
 obtain ⟨c',h1,h2,h3⟩:=Own.stG (P:=P) r O hx (db _ _ _ _) hr hb hlim hv hs h1 hl hn;rw [wu] at h3;exact ⟨c',h1,h2,h3⟩
def Cw (n:Nat) (ks:List Nat):Bool:=ks.all (fun i=>Nat.blt i n) && decide ks.Nodup
theorem Own.selD (n:Nat) (ks:List Nat) (O:Own c G F) (hks:Cw n ks=true) (hn:Nat.ble n F.length=true):Own c G (ks.map (fun i=>F.getD i uh)++F.drop n):=by
 simp only [Cw,aq,tc,an] at hks;have hn:=bE hn;refine Own.sel (L:=F.take n) ks (by rw [Hb]; exact O) hks.2 ?_;rw [GZ];refine cX fun i hi=>?_;have h1:i < n:=by have:=hks.1 i hi; simpa [Nat.blt_eq] using this
 simp only [Function.comp,aN,ae h1,ao];rw [af (by omega)];rfl
end
section
variable {P:Program} {c:Cx} {n:Fr} {e:Nat→Value} {fn:Func} {R:Ending→World→Prop}
theorem rF {t b:Nat} {T U:TypeId} {vs:List Value} (hr:fn.results= #[.cell t T]) (hv:ev n e (.tmp t)= .pointer (some ⟨b,0,none⟩))
  (hT:(P.underlying T).map (fun d=>match d with | .struct _ | .array _ _=>true | _=>false)=some true) (hs:(P.info? T).map (·.size)=some vs.length) (h:c.w.heap[b]? = some (.cells vs.toArray U (0,0)))
  (hR:R (.returned (.agg vs.toArray)) c.w):nE P fn n R .ret e c.w:=by
 have hl:=ou (P:=P) (w:=c.w) (b:=b) (o:=0) (l:=vs) hT hs (fun j u hu=>by simp [World.cell?,h,hu]);refine ⟨.agg vs.toArray,?_,hR⟩;have ht:=gE n e t;rw [hv,cx] at ht;simp [results,hr,ht,asAddr,hl]
theorem yh {t u b:Nat} {T U:TypeId} {vs:List Value} {v:Value} (hr:fn.results= #[.cell t T,.tmp u]) (hv:ev n e (.tmp t)= .pointer (some ⟨b,0,none⟩)) (hu:ev n e (.tmp u)=v)
  (hT:(P.underlying T).map (fun d=>match d with | .struct _ | .array _ _=>true | _=>false)=some true) (hs:(P.info? T).map (·.size)=some vs.length) (h:c.w.heap[b]? = some (.cells vs.toArray U (0,0)))
  (hR:R (.returned (.tuple #[.agg vs.toArray,v])) c.w):nE P fn n R .ret e c.w:=by
 have hl:=ou (P:=P) (w:=c.w) (b:=b) (o:=0) (l:=vs) hT hs (fun j u hu=>by simp [World.cell?,h,hu]);refine ⟨.tuple #[.agg vs.toArray,v],?_,hR⟩;have ht:=gE n e t;have hu':=gE n e u;rw [hv,cx] at ht;rw [hu,cx] at hu';simp [results,hr,ht,hu',asAddr,hl,Result.andThen]
theorem IA {w:World} {t u s:Nat} {v v' v'':Value} (hr:fn.results= #[.tmp t,.tmp u,.tmp s]) (hv:ev n e (.tmp t)=v) (hu:ev n e (.tmp u)=v') (hs:ev n e (.tmp s)=v'')
  (h:R (.returned (.tuple #[v,v',v''])) w):nE P fn n R .ret e w:=by
 refine ⟨.tuple #[v,v',v''],?_,h⟩;have h1:=gE n e t;have h2:=gE n e u;have h3:=gE n e s;rw [hv,cx] at h1;rw [hu,cx] at h2;rw [hs,cx] at h3;simp [results,hr,h1,h2,h3]
theorem zz {s t u b:Nat} {T U:TypeId} {vs:List Value} {v v':Value} (hr:fn.results= #[.tmp s,.cell t T,.tmp u]) (hs':ev n e (.tmp s)=v') (hv:ev n e (.tmp t)= .pointer (some ⟨b,0,none⟩)) (hu:ev n e (.tmp u)=v)
  (hT:(P.underlying T).map (fun d=>match d with | .struct _ | .array _ _=>true | _=>false)=some true) (hs:(P.info? T).map (·.size)=some vs.length) (h:c.w.heap[b]? = some (.cells vs.toArray U (0,0)))
  (hR:R (.returned (.tuple #[v',.agg vs.toArray,v])) c.w):nE P fn n R .ret e c.w:=by
 have hl:=ou (P:=P) (w:=c.w) (b:=b) (o:=0) (l:=vs) hT hs (fun j u hu=>by simp [World.cell?,h,hu]);refine ⟨.tuple #[v',.agg vs.toArray,v],?_,hR⟩;have ht:=gE n e t;have hu':=gE n e u;have hs'':=gE n e s;rw [hv,cx] at ht;rw [hu,cx] at hu';rw [hs',cx] at hs'';simp [results,hr,ht,hu',hs'',asAddr,hl,Result.andThen]
end
inductive EqP (P:Program) (xs ys:Array Value):List Field→Bool→Prop
 | nil:EqP P xs ys [] true
 | int {f:Field} {fs:List Field} {k:IntKind} {a b:Int} {r:Bool} (hn:decide (f.name= "_")=false) (hT:P.underlying f.type=some (.int k)) (hx:xs[f.offset]? = some (.int k a)) (hy:ys[f.offset]? = some (.int k b)) (h:EqP P xs ys fs r):EqP P xs ys (f :: fs) ((a==b) && r)
 | bool {f:Field} {fs:List Field} {a b:Bool} {r:Bool} (hn:decide (f.name= "_")=false) (hT:P.underlying f.type=some .bool) (hx:xs[f.offset]? = some (.bool a)) (hy:ys[f.offset]? = some (.bool b)) (h:EqP P xs ys fs r):EqP P xs ys (f :: fs) ((a==b) && r)
theorem oY {P:Program} {T:TypeId} {xs:Array Value} {o:Nat} {v:Value} (w:World) (hT:(P.underlying T).map (fun d=>match d with | .struct _ | .array _ _=>true | _=>false)=some false) (h:xs[o]? = some v):(part T xs o).run P w= .ok v w:=by
 obtain ⟨d,hd,hx⟩:=Option.map_eq_some_iff.1 hT;have hi:(isAgg T).run P w= .ok false w:=by
  have:=bL (P:=P) (w:=w) hd;simp only [isAgg,kN,this,nF]
  cases d <;> simp_all
 simp [part,hi,h,Result.andThen]
theorem EqP.run {P:Program} {xs ys:Array Value} {fs:List Field} {r:Bool} (h:EqP P xs ys fs r) (d:Nat) (w:World):(Op.eqFields (d+1) xs ys fs).run P w= .ok r w:=by
 induction h with
 | nil=>simp [Op.eqFields]
 | @int f fs k a b r hn hT hx hy _ ih=>
  have h1:=oY w (T:=f.type) (by rw [hT]; rfl) hx;have h2:=oY w (T:=f.type) (by rw [hT]; rfl) hy;have h3:=run_equalIn_int w d f.type k k a b hT;simp only [Op.eqFields,ae (IE hn),kN,h1,h2,h3,nF];by_cases hab:a=b <;> simp [hab,ih]
 | @bool f fs a b r hn hT hx hy _ ih=>
  have h1:=oY w (T:=f.type) (by rw [hT]; rfl) hx;have h2:=oY w (T:=f.type) (by rw [hT]; rfl) hy;have h3:=run_equalIn_bool' w d f.type a b hT;simp only [Op.eqFields,ae (IE hn),kN,h1,h2,h3,nF];by_cases hab:a=b <;> simp [hab,ih]
section
variable {P:Program} {ρ:Operand→Value} {o:Oper} {T U:TypeId} {xs ys:Array Value} {fs:Array Field} {r:Bool}
theorem yd (ht:P.underlying T=some (.struct fs)) (hp:P.stoodInHeld T=false) (hm:P.eqGuardType P.depth T=false) (h:EqP P xs ys fs.toList r)
  (hx:execOp ρ o=(do pure (Next.value (←(do eqGuard .eql T (.const .nilIface) (.const .nilIface) (.agg xs) (.agg ys); binOp .eql T (.agg xs) (.agg ys)))):Sem Next)) (w:World):(execOp ρ o).run P w= .ok (.value (.bool r)) w:=by
 have hf:P.fieldsOf T=fs:=by simp [Program.fieldsOf,ht]
 rw [hx];refine rv ?_;simp only [kN,run_eqGuard_agg w .eql T (.const .nilIface) (.const .nilIface) xs ys hm,nF,run_eql_struct,run_equalIn_agg w 9999 T xs ys (by rw [hf]; exact ht) hp];rw [hf,h.run];rfl
end
end Go.Lt
namespace Go.Lt
abbrev T16:=Int×Int×Int×Int×Int×Int×Int×Int×Int×Int×Int×Int×Int×Int×Int×Int
def a16 (t:T16):List Int:=[t.1,t.2.1,t.2.2.1,t.2.2.2.1,t.2.2.2.2.1,t.2.2.2.2.2.1,t.2.2.2.2.2.2.1,t.2.2.2.2.2.2.2.1,t.2.2.2.2.2.2.2.2.1,t.2.2.2.2.2.2.2.2.2.1,t.2.2.2.2.2.2.2.2.2.2.1,t.2.2.2.2.2.2.2.2.2.2.2.1,t.2.2.2.2.2.2.2.2.2.2.2.2.1,t.2.2.2.2.2.2.2.2.2.2.2.2.2.1,t.2.2.2.2.2.2.2.2.2.2.2.2.2.2.1,t.2.2.2.2.2.2.2.2.2.2.2.2.2.2.2]
def l16 (l:List Int):T16:=(l.getD 0 0,l.getD 1 0,l.getD 2 0,l.getD 3 0,l.getD 4 0,l.getD 5 0,l.getD 6 0,l.getD 7 0,l.getD 8 0,l.getD 9 0,l.getD 10 0,l.getD 11 0,l.getD 12 0,l.getD 13 0,l.getD 14 0,l.getD 15 0)
theorem nO (t:T16):(a16 t).length=16:=rfl
theorem Fq {l:List Int} (h:l.length=16):a16 (l16 l)=l:=by
 match l,h with
 | [_,_,_,_,_,_,_,_,_,_,_,_,_,_,_,_],_=>rfl
def Aa (t:T16) (i x:Int):T16:=l16 ((a16 t).set i.toNat x)
theorem zg (t:T16) (i x:Int):a16 (Aa t i x)=(a16 t).set i.toNat x:=Fq (by rw [cp]; rfl)
theorem Ei {α:Type} (pre l post:List α) {m:Nat} (x:α) (h:m < l.length):(pre++l++post).take (pre.length+m * 1)++ [x]++(pre++l++post).drop (pre.length+m * 1+1)=pre++l.set m x++post:=by
 rw [Ik,aF pre l post,Ae,List.drop_append,aH (by omega),G5 (l:=pre) (by omega),bN];rw [show pre.length+m - pre.length=m by omega,show pre.length+m+1 - pre.length=m+1 by omega];rw [dF (by omega),gX (by omega)];rw [List.set_eq_take_append_cons_drop,ae h];simp only [aF,cZ,bN]
theorem Hq {k:IntKind} {t y:T16} {i x z:Int} (h:idx (a16 t) i=some z) (hy:some (Aa t i x)=some y) (pre post:List Value):
  (pre++(a16 t).map (Value.int k)++post).take (pre.length+i.toNat * 1)++ [.int k x]++(pre++(a16 t).map (Value.int k)++post).drop (pre.length+i.toNat * 1+1)=pre++(a16 y).map (Value.int k)++post:=by
 have hl:=tE h;rw [nO] at hl;cases hy;rw [Ei _ _ _ _ (by rw [cM,nO]; omega),zg,List.map_set]
theorem Ie {i z:Int} {t:T16} (h:idx (a16 t) i=some z) {p n:Nat} (hn:p+16≤n):Nat.ble (p+i.toNat * 1+1) n=true:=by
 have hl:=tE h;rw [nO] at hl;exact nQ (by omega)
section
variable {P:Program} {c c':Cx} {G:Gm} {F:List En} {ρ:Operand→Value} {o:Oper}
theorem Own.back {g k:Nat} {E E':List En} (O:Own c (jz G g k E') F) (hE:G g k=E) (h:E'=E):Own c G F:=by
 subst h;have e:jz G g k E'=G:=by
  funext a b
  simp only [jz];split
  ·rename_i hh
   obtain ⟨rfl,rfl⟩:=hh;exact hE.symm
  ·rfl
 rwa [e] at O
theorem Own.appSrc {α:Type} {R:Rp α} {E t ty:TypeId} {v:Value} {vs:List Value} {xs ys zs:List α} {z:Value} {by_:Nat} {m:Bool} {ua:Option Addr} {ucap:Nat} {nw:List Value} (k:Nat) (O:Own c G F) (hk:F[k]? = some (es m R v E vs xs)) (h:OA R c v vs xs)
  (n1:nw.length=ys.length * R.size) (n2:ys≠ []→∃ub uo,ua=some ⟨ub,uo,none⟩∧∀j w,nw[j]? = some w→c.w.cell? ⟨ub,uo+j,none⟩=some w) (n3:∀w∈nw,w.oneCell'=true) (n4:∀i x,ys[i]? = some x→R.cells c ((nw.drop (i * R.size)).take R.size) x) (happ:Go.Lt.app xs ys=some zs)
  (hT:P.underlying t=some (.slice E)) (hi:(P.info? E).map (fun i=>(i.zero,i.size,i.bytes))=some (some z,R.size,by_)) (hz:z.cells.size=R.size) (hby:Nat.ble by_ 128=true)
  (hx:execOp ρ o=(do pure (Next.value (←Builtin.append_ #[t,t] ty #[v,.slice ua ys.length ucap])):Sem Next)):
  ∃v' c',(execOp ρ o).run P c.w= .ok (.value v') c'.w∧c.le c'∧∃vs',Own c' G (F.set k (es m R v' E vs' zs))∧OA R c' v' vs' zs:=by
 obtain ⟨v',c',h1,h2,h3⟩:=vK (P:=P) (t:=t) (ty:=ty) (ucap:=ucap) k O hk h n1 n2 n3 n4 happ hT hi hz hby;exact ⟨v',c',rx hx h1,h2,h3⟩
theorem zx {T E:TypeId} {n sz b j:Nat} {k:IntKind} {i:Int} (hT:P.underlying T=some (.array n E)) (hE:(P.info? E).map (·.size)=some sz) (h0:0≤i) (h1:i < (n:Int)) (w:World):
  (Instr.indexAt T (.pointer (some ⟨b,j,none⟩)) (.int k i)).run P w= .ok (.pointer (some ⟨b,j+i.toNat * sz,none⟩)) w:=by
 obtain ⟨ti,hti,hsz⟩:=Option.map_eq_some_iff.1 hE;simp [Instr.indexAt,asIntOf,Instr.sureAddr,bL hT,h0,h1,sizeOf,typeInfo,hti,hsz,dG]
theorem CD {T E:TypeId} {n b j:Nat} {k:IntKind} {i:Int} (hT:P.underlying T=some (.array n E)) (hE:((P.info? E).map (·.size)).isSome=true) (h0:0≤i) (h1:i≤(n:Int)) (w:World):
  (Instr.sliceAt T (.pointer (some ⟨b,j,none⟩)) none (some (.int k i)) none).run P w= .ok (.slice (some ⟨b,j,none⟩) i.toNat n) w:=by
 cases hti:P.info? E with
 | none=>rw [hti] at hE; cases hE
 | some ti=>
  have e2:0≤i∧i≤(n:Int):=⟨h0,h1⟩;simp [Instr.sliceAt,Instr.sureAddr,bL hT,Instr.sliceBounds,Instr.sliceBound,asIntOf,e2,sizeOf,typeInfo,hti,dG]
theorem FY {k:IntKind} {t:T16} {i:Int} {xs:List Int} (h:slc (a16 t) 0 i=some xs) (pre post:List Value) (m:Nat) (u:Value) (hu:(xs.map (Value.int k))[m]? = some u):(pre++(a16 t).map (Value.int k)++post)[pre.length+m]? = some u:=by
 obtain ⟨h1,h2,h3,rfl⟩:=oW h;rw [nO] at h3;rw [bz] at hu;simp only [Int.toNat_zero,nH,aN] at hu;split at hu
 ·rename_i hm
  have hm16:m < 16:=by omega
  rw [aF,aY (by omega),show pre.length+m - pre.length=m by omega,aB (by rw [cM,nO]; exact hm16),bz];exact hu
 ·cases hu
theorem Cp {t:T16} {i:Int} {xs:List Int} (h:slc (a16 t) 0 i=some xs):xs.length=i.toNat:=by
 have:=Ef h;omega
theorem oo.map {α:Type} {R:Rp α} {c:Cx} (f:α→List Value) (h:∀x,R.cells c (f x) x):∀l:List α,oo R c (l.map f) l
 | []=>trivial
 | x :: l=>⟨h x,oo.map f h l⟩
def fw (k:IntKind) (a b:Int):Int:=k.wrap ((BitVec.ofInt k.bits a &&& BitVec.ofInt k.bits b).toNat:Int)
def iW (k:IntKind) (a b:Int):Int:=k.wrap ((BitVec.ofInt k.bits a ||| BitVec.ofInt k.bits b).toNat:Int)
def shn (n:Int):Option Nat:=if n < 0 then none else some n.toNat
theorem Cr {n:Int} {m:Nat} (h:shn n=some m):¬n < 0∧n.toNat=m:=by
 unfold shn at h;split at h
 ·cases h
 ·rename_i hn; exact ⟨hn,by simpa using h⟩
theorem Em {k k':IntKind} {a b:Int} {m:Nat} (h:shn b=some m) (hx:execOp ρ o=(do pure (Next.value (←Op.shift .shl k a k' b)):Sem Next)) (w:World):(execOp ρ o).run P w= .ok (.value (.int k (k.wrap (a * 2 ^ (min m k.bits))))) w:=by
 obtain ⟨h1,h2⟩:=Cr h;rw [hx];exact rv (by simp [Op.shift,h1,h2])
end
end Go.Lt
namespace Go.Lt
section
variable {P:Program} {c c':Cx} {G:Gm} {F:List En} {ρ:Operand→Value} {o:Oper}
theorem Own.frzB {b:Nat} {T:TypeId} {vs:List Value} (k:Nat) (O:Own c G F) (hk:F[k]? = some ⟨.pointer (some ⟨b,0,none⟩),T,vs,0⟩):
  ∃c',c'.w=c.w∧c.le c'∧Own c' G (F.set k ⟨.pointer (some ⟨b,0,none⟩),T,vs,vs.length⟩)∧∀j u,vs[j]? = some u→Im c' b (0+j) u:=by
 have hon:=O.on k hk;obtain ⟨hh,hA⟩:=hon b rfl
 let c':Cx:=⟨c.w,fun b' o=>c.A b' o∧¬(b'=b∧o < vs.length),c.t⟩
 have hle:c.le c':=⟨rfl,rfl,ay _,fun _ _ _ h=>⟨rfl,fun h2=>h h2.1⟩,fun _ _ _=>rfl,fun _ _ _=>rfl,fun _ _ _ h=>h⟩;have hb:c.but (fun b'=>b'=b) c':=⟨hle,rfl,fun b' hb' hd=>⟨rfl,fun o=>⟨fun h=>h.1,fun h=>⟨h,fun h2=>hd h2.1⟩⟩⟩⟩;refine ⟨c',rfl,hle,O.set k hk hb (fun b' h=>by rw [h]; rfl) (fun b' hb'=>?_) (fun b' h=> .inl h),fun j u hu=>⟨hon.lt rfl,fun hA'=>?_,?_⟩⟩
 ·simp only [blk,aK] at hb';subst hb';refine ⟨hh,fun o=>?_⟩;show (c.A b o∧¬(b=b∧o < vs.length))↔vs.length≤o;rw [hA o];simp
 ·have:=(List.getElem?_eq_some_iff.1 hu).1;exact hA'.2 ⟨rfl,by omega⟩
 ·show c.w.cell? _=_;rw [iV _ _ _ _ _ _ hh,bV,gI,hu]
def F6 (s:ByteArray) (i:Int):Option Int:=if 0≤i then (s[i.toNat]?).map (fun b=>(b.toNat:Int)) else none
theorem zv {T:TypeId} {s:ByteArray} {k:IntKind} {i x:Int} (hT:P.underlying T=some .string) (h:F6 s i=some x) (w:World):(Instr.index T (.string s) (.int k i)).run P w= .ok (.int .u8 x) w:=by
 unfold F6 at h;split at h
 ·rename_i h0
  obtain ⟨b,hb,rfl⟩:=Option.map_eq_some_iff.1 h;simp [Instr.index,asIntOf,bL hT,h0,hb]
 ·cases h
end
section
variable {P:Program} {c:Cx} {n:Fr} {e:Nat→Value} {fn:Func} {R:Ending→World→Prop}
end
section
variable {D:List Nat} {K:Cx→Prop} {P:Program} {l:List Oper} {n:Fr} {Q:Exit→(Nat→Value)→World→Prop} {fuel:Nat} {li:List Bool} {e:Nat→Value} {c:Cx} {o:Oper}
theorem Go1.late (i:Nat) (v:Value) (hi:l.toArray[i]? = some o) (hsl:fi n l=true) (hw:iG l.toArray n e o=true) (hr:(execOp (ev n e) o).run P c.w= .ok (.value v) c.w)
  (hk:D.contains i=true) (h:AC D K P l n Q fuel (li.set i true) (upO e o.dst v) c):Go1 D K P l n Q fuel li e c i:=Go1.val hi hsl hw hr (Cx.le.refl c) (.inl hk) h
end
end Go.Lt
namespace Go.Lt
theorem pt {c c':Cx} (k:c.le c':=by repeat (first | assumption | exact Cx.le.refl _ | refine Cx.le.trans ?_ (by assumption))):c.le c':=k
section
variable {c c':Cx} {α:Type} {R:Rp α}
theorem Sl.m {v:Value} {xs:List α} (h:Sl R c v xs) (k:c.le c':=by repeat (first | assumption | refine Cx.le.trans ?_ (by assumption))):Sl R c' v xs:=h.mono k
theorem OA.m {v:Value} {vs:List Value} {xs:List α} (h:OA R c v vs xs) (k:c.le c':=by repeat (first | assumption | refine Cx.le.trans ?_ (by assumption))):OA R c' v vs xs:=h.mono k
theorem Pt.m {g:Nat} {v:Value} {p:Option Nat} (h:Pt g c v p) (k:c.le c':=by repeat (first | assumption | refine Cx.le.trans ?_ (by assumption))):Pt g c' v p:=h.mono k
theorem RE.m {S T:TypeId} {v:Value} {e:Er} (h:RE S T c v e) (k:c.le c':=by repeat (first | assumption | refine Cx.le.trans ?_ (by assumption))):RE S T c' v e:=h.mono k
theorem mm {b o:Nat} {L:List Value} (h:∀j u,L[j]? = some u→Im c b (o+j) u) (k:c.le c':=by repeat (first | assumption | refine Cx.le.trans ?_ (by assumption))):∀j u,L[j]? = some u→Im c' b (o+j) u:=fun j u hu=>(h j u hu).mono k
theorem tm {g k b:Nat} (h:c.t g k=some b) (l:c.le c':=by repeat (first | assumption | refine Cx.le.trans ?_ (by assumption))):c'.t g k=some b:=l.t _ _ _ h
end
theorem yB {e:Nat→Value}:∀{l:List (Nat×Value)},l.map (fun x=>e x.1)=l.map (fun x=>x.2)→vg e l
 | [],_=>trivial
 | (t,v) :: l,h=>by
  simp only [rP,Cd] at h;exact ⟨h.1,yB h.2⟩
theorem us {e:Nat→Value} {l:List (Nat×Value)} (h:l.map (fun x=>e x.1)=l.map (fun x=>x.2):=by kernel_rfl):e=ups e l:=xT (yB h)
abbrev Jn (c0:Cx) (q:Cx→List (Nat×Value)→Prop) (e:Nat→Value) (w:World):Prop:=∃(c:Cx) (g:Nat→Value) (l:List (Nat×Value)),w=c.w∧c0.le c∧e=ups g l∧q c l
theorem jn {c0:Cx} {q:Cx→List (Nat×Value)→Prop} {e:Nat→Value} {l:List (Nat×Value)} (c:Cx) (h:q c l) (k:c0.le c:=by repeat (first | assumption | exact Cx.le.refl _ | refine Cx.le.trans ?_ (by assumption))) (u:l.map (fun x=>e x.1)=l.map (fun x=>x.2):=by kernel_rfl):Jn c0 q e c.w:=⟨c,e,l,rfl,k,us u,h⟩
theorem qq {c0:Cx} {X:Cx→Value→Prop} {v:Value} (c:Cx) (h:X c v) (k:c0.le c:=by repeat (first | assumption | exact Cx.le.refl _ | refine Cx.le.trans ?_ (by assumption))):aP c0 X (.returned v) c.w:=⟨v,c,rfl,rfl,k,h⟩
theorem bn {α β:Type} {x:Option α} {f:α→Option β} {r:β} {C:Prop} (H:x.bind f=some r) (k:∀a,x=some a→f a=some r→C):C:=by
 obtain ⟨a,h1,h2⟩:=bs H;exact k a h1 h2
theorem si {α:Type} {a b:α} (h:some a=some b):a=b:=bi h
theorem bo (b:Bool):b=true∨b=false:=Bool.eq_false_or_eq_true b
theorem Own.sD {c:Cx} {G:Gm} {F:List En} (O:Own c G F) (n:Nat) (ks:List Nat) (h1:Cw n ks=true:=by kernel_rfl) (h2:Nat.ble n F.length=true:=by kernel_rfl):Own c G (ks.map (fun i=>F.getD i uh)++F.drop n):=O.selD n ks h1 h2
section
variable {P:Program} {c c':Cx} {G:Gm} {F:List En} {α:Type} {R:Rp α} {ρ:Operand→Value} {o:Oper} {fn:Func}
variable {n:Fr} {ops:Array Oper} {Q:Exit→(Nat→Value)→World→Prop} {rest:List Oper} {e:Nat→Value} {D:List Nat} {K:Cx→Prop} {l:List Oper} {fuel:Nat} {li:List Bool} {a b:Code} {w:World}
theorem vx {s:Sem Value} {v:Value} (h0:s.run P w= .ok v w) (h:WL P ops n Q rest (upO e o.dst v) w) (hg:o.guard=none:=by exact rfl) (hx:execOp (ev n e) o=(do pure (Next.value (←s)):Sem Next):=by kernel_rfl):WL P ops n Q (o :: rest) e w:=WL.val0 hg (rx hx h0) h
theorem vr (v:Value) (hr:(execOp (ev n e) o).run P w= .ok (.value v) w) (h:WL P ops n Q rest (upO e o.dst v) w) (hg:o.guard=none:=by exact rfl):WL P ops n Q (o :: rest) e w:=WL.val0 hg hr h
theorem cl {f:FuncId} {args:Array Value} {X:Cx→Value→Prop} (hc:Calls P f args c.w (aP c X)) (h:∀v c',c.le c'→X c' v→WL P ops n Q rest (upO e o.dst v) c'.w) (hg:o.guard=none:=by exact rfl) (hr:(execOp (ev n e) o).run P c.w= .ok (.enter f args) c.w:=by kernel_rfl):WL P ops n Q (o :: rest) e c.w:=WL.callP hg hr hc h
theorem me {X:Value→Cx→Prop} (hr:∃v c',(execOp (ev n e) o).run P c.w= .ok (.value v) c'.w∧c.le c'∧X v c') (h:∀v c',c.le c'→X v c'→WL P ops n Q rest (upO e o.dst v) c'.w) (hg:o.guard=none:=by exact rfl):WL P ops n Q (o :: rest) e c.w:=WL.mem hg hr h
theorem md {X:Cx→Prop} (hr:∃c',(execOp (ev n e) o).run P c.w= .ok .skip c'.w∧c.le c'∧X c') (h:∀c',c.le c'→X c'→WL P ops n Q rest (upO e o.dst undef) c'.w) (hg:o.guard=none:=by exact rfl):WL P ops n Q (o :: rest) e c.w:=WL.memD hg hr h
theorem cn {α:Type} {t:Bool} {x y:Option α} {r:α} {cd:Operand} (H:(if t=true then x else y)=some r) (h1:t=true→x=some r→W P n a Q e w) (h2:t=false→y=some r→W P n b Q e w) (hc:ev n e cd= .bool t:=by kernel_rfl):W P n (.cond cd a b) Q e w:=
 W.cond hc (fun h=>h1 h (it h H)) (fun h=>h2 h (ie h H))
theorem lp {σ τ:Type} {step:σ→Option (σ ⊕ τ)} {fuel:Nat} {s:σ} {t:τ} (H:cv fuel step s=some t) (F:σ→(Nat→Value)→World→Prop) (Out:τ→Exit→(Nat→Value)→World→Prop)
  (hb:∀s x e w,step s=some x→F s e w→W P n a (lpQ F Out x) e w) (h0:F s e w) (hQ:∀x e w,Out t x e w→Q x e w):W P n (.loop a) Q e w:=W.loop F Out hb H h0 hQ
theorem en {P:Program} {f:FuncId} {fn:Func} {code:Code} {n:Nat} {l:List Value} {w:World} {R:Ending→World→Prop} (hf:P.funcs[f]? = some fn) (hb:fn.body=some code) (hn:fn.ntmps=n) (h:W P ⟨n,[],none⟩ code (nE P fn ⟨n,[],none⟩ R) (ar l) w) (hl:Nat.ble l.length n=true:=by rfl):Calls P f l.toArray w R:=enter hf hb hn hl h
theorem tx (i:Nat) {s:Sem Value} {v:Value} (h0:∀c',c.le c'→s.run P c'.w= .ok v c'.w) (h:AC D K P l n Q fuel (li.set i true) (upO e o.dst v) c) (hi:l.toArray[i]? = some o:=by exact rfl) (ht:tk l n li i=true:=by kernel_rfl) (hw:iG l.toArray n e o=true:=by kernel_rfl)
  (hx:execOp (ev n e) o=(do pure (Next.value (←s)):Sem Next):=by kernel_rfl):AC D K P l n Q (fuel+1) li e c:=AC.take i v hi ht hw (fun c' k=>rx hx (h0 c' k)) h
theorem tkx (i:Nat) {s:Sem Value} {v:Value} (p:K c) (h0:∀c',c.le c'→K c'→s.run P c'.w= .ok v c'.w) (h:AC D K P l n Q fuel (li.set i true) (upO e o.dst v) c) (hi:l.toArray[i]? = some o:=by exact rfl) (ht:tk l n li i=true:=by kernel_rfl) (hB:okB l.toArray li i D=true:=by kernel_rfl)
  (hw:iG l.toArray n e o=true:=by kernel_rfl) (hx:execOp (ev n e) o=(do pure (Next.value (←s)):Sem Next):=by kernel_rfl):AC D K P l n Q (fuel+1) li e c:=AC.takeK i v p hi ht hB hw (fun c' k q=>rx hx (h0 c' k q)) h
theorem tp (i:Nat) (h:AC D K P l n Q fuel (li.set i true) (upO e o.dst undef) c) (hi:l.toArray[i]? = some o:=by exact rfl) (ht:tk l n li i=true:=by kernel_rfl) (hw:iG l.toArray n e o=false:=by kernel_rfl):AC D K P l n Q (fuel+1) li e c:=AC.pass i hi ht hw h
theorem dn (h:Q .normal e c.w) (hr:Region.ready .any l.toArray li.toArray= []:=by kernel_rfl):AC D K P l n Q fuel li e c:=AC.done hr h
theorem o1 (i:Nat) (h:Go1 D K P l n Q fuel li e c i) (hr:Region.ready .any l.toArray li.toArray= [i]:=by kernel_rfl):AC D K P l n Q (fuel+1) li e c:=AC.one i hr h
theorem mn2 (i j:Nat) (h1:Go1 D K P l n Q fuel li e c i) (h2:Go1 D K P l n Q fuel li e c j) (hr:Region.ready .any l.toArray li.toArray= [i,j]:=by kernel_rfl):AC D K P l n Q (fuel+1) li e c:=AC.many [i,j] (by simp) hr ⟨h1,h2,trivial⟩
theorem gm (i:Nat) {X:Value→Cx→Prop} (hr:∃v c',(execOp (ev n e) o).run P c.w= .ok (.value v) c'.w∧c.le c'∧X v c') (h:∀v c',c.le c'→X v c'→(D.contains i=true∨K c')∧AC D K P l n Q fuel (li.set i true) (upO e o.dst v) c')
  (hi:l.toArray[i]? = some o:=by exact rfl) (hsl:fi n l=true:=by kernel_rfl) (hw:iG l.toArray n e o=true:=by kernel_rfl):Go1 D K P l n Q fuel li e c i:=Go1.mem i hi hsl hw hr h
theorem gD (i:Nat) {X:Cx→Prop} (hr:∃c',(execOp (ev n e) o).run P c.w= .ok .skip c'.w∧c.le c'∧X c') (h:∀c',c.le c'→X c'→(D.contains i=true∨K c')∧AC D K P l n Q fuel (li.set i true) (upO e o.dst undef) c')
  (hi:l.toArray[i]? = some o:=by exact rfl) (hsl:fi n l=true:=by kernel_rfl) (hw:iG l.toArray n e o=true:=by kernel_rfl):Go1 D K P l n Q fuel li e c i:=Go1.memD i hi hsl hw hr h
theorem gc (i:Nat) {f:FuncId} {args:Array Value} {X:Cx→Value→Prop} (hc:Calls P f args c.w (aP c X)) (h:∀v c',c.le c'→X c' v→(D.contains i=true∨K c')∧AC D K P l n Q fuel (li.set i true) (upO e o.dst v) c')
  (hi:l.toArray[i]? = some o:=by exact rfl) (hsl:fi n l=true:=by kernel_rfl) (hw:iG l.toArray n e o=true:=by kernel_rfl) (hr:(execOp (ev n e) o).run P c.w= .ok (.enter f args) c.w:=by kernel_rfl):Go1 D K P l n Q fuel li e c i:=Go1.callP i hi hsl hw hr hc h
theorem gl (i:Nat) {s:Sem Value} {v:Value} (h0:s.run P c.w= .ok v c.w) (h:AC D K P l n Q fuel (li.set i true) (upO e o.dst v) c)
  (hi:l.toArray[i]? = some o:=by exact rfl) (hsl:fi n l=true:=by kernel_rfl) (hw:iG l.toArray n e o=true:=by kernel_rfl) (hx:execOp (ev n e) o=(do pure (Next.value (←s)):Sem Next):=by kernel_rfl) (hk:D.contains i=true:=by kernel_rfl):Go1 D K P l n Q fuel li e c i:=Go1.late i v hi hsl hw (rx hx h0) hk h
theorem rD (D:List Nat) (K:Cx→Prop) {id:Nat} (O:Own c G F) (h:∀c',c.le c'→Own c' G F→AC D K P l n Q l.length (List.replicate l.length false) e c') (hm:P.follows .mixedOrders=true:=by kernel_rfl):W P n (.region id l.toArray true) Q e c.w:=W.regionD D K O hm h
theorem l1 {T:TypeId} {b o:Nat} {v:Value} {d:TypeDesc} (hT:P.underlying T=some d) (h:Im c b o v) (hd:(match d with | .struct _ | .array _ _=>false | _=>true)=true:=by rfl):(Instr.loadAt T (.pointer (some ⟨b,o,none⟩))).run P c.w= .ok v c.w:=Bn hT hd h
theorem lN (T:TypeId) {b o:Nat} {l:List Value} (h:∀j u,l[j]? = some u→Im c b (o+j) u) (hT:(P.underlying T).map (fun d=>match d with | .struct _ | .array _ _=>true | _=>false)=some true:=by kernel_rfl) (hs:(P.info? T).map (·.size)=some l.length:=by kernel_rfl):
  (Instr.loadAt T (.pointer (some ⟨b,o,none⟩))).run P c.w= .ok (.agg l.toArray) c.w:=Bm hT hs h
theorem le1 (j:Nat) {T:TypeId} {e:En} {b:Nat} {v:Value} {d:TypeDesc} (hT:P.underlying T=some d) (h:e.on c) (hd:(match d with | .struct _ | .array _ _=>false | _=>true)=true:=by rfl) (hb:blk e.v=some b:=by rfl) (hj:e.vs[j]? = some v:=by rfl):
  (Instr.loadAt T (.pointer (some ⟨b,j,none⟩))).run P c.w= .ok v c.w:=mE hT hd h hb hj
theorem leN (T j:Nat) (l:List Value) {e:En} {b:Nat} (h:e.on c) (hT:(P.underlying T).map (fun d=>match d with | .struct _ | .array _ _=>true | _=>false)=some true:=by kernel_rfl) (hs:(P.info? T).map (·.size)=some l.length:=by kernel_rfl) (hb:blk e.v=some b:=by rfl) (hl:(e.vs.drop j).take l.length=l:=by rfl):
  (Instr.loadAt T (.pointer (some ⟨b,j,none⟩))).run P c.w= .ok (.agg l.toArray) c.w:=Gz hT hs h hb hl
theorem ix {v:Value} {xs:List α} {T E:TypeId} {i:Int} {x:α} (hT:P.underlying T=some (.slice E)) (h:Sl R c v xs) (hi:idx xs i=some x) (hE:(P.info? E).map (·.size)=some R.size:=by kernel_rfl):
  (Instr.indexAt T v (.int .i64 i)).run P w= .ok (.pointer (some ⟨sb v,so v+i.toNat * R.size,none⟩)) w:=Bo hT hE h hi w
theorem ixO {v:Value} {vs:List Value} {xs:List α} {T E:TypeId} {i:Int} {x:α} (hT:P.underlying T=some (.slice E)) (h:OA R c v vs xs) (hi:idx xs i=some x) (hE:(P.info? E).map (·.size)=some R.size:=by kernel_rfl):
  (Instr.indexAt T v (.int .i64 i)).run P w= .ok (.pointer (some ⟨sb v,i.toNat * R.size,none⟩)) w:=zw hT hE h hi w
theorem ln {v:Value} {xs:List α} {T E:TypeId} (ty:TypeId) (hT:P.underlying T=some (.slice E)) (h:Sl R c v xs):(Builtin.len_ #[T] ty #[v]).run P w= .ok (.int .i64 (xs.length:Int)) w:=Ep hT h w
theorem lnO {v:Value} {vs:List Value} {xs:List α} {T E:TypeId} (ty:TypeId) (hT:P.underlying T=some (.slice E)) (h:OA R c v vs xs):(Builtin.len_ #[T] ty #[v]).run P w= .ok (.int .i64 (xs.length:Int)) w:=CB hT h w
theorem bx (T:TypeId) (vs:List Value) (O:Own c G F) (hr:(execOp ρ o).run P c.w= .ok (.value (.pointer (some ⟨c.w.heap.size,0,none⟩))) (c.w.alloc (.cells vs.toArray T)):=by kernel_rfl):
  ∃v c',(execOp ρ o).run P c.w= .ok (.value v) c'.w∧c.le c'∧∃b,v= .pointer (some ⟨b,0,none⟩)∧Own c' G F∧∀j u,vs[j]? = some u→Im c' b (0+j) u:=Own.bx O hr
theorem al (T:TypeId) (vs:List Value) (O:Own c G F) (hr:(execOp ρ o).run P c.w= .ok (.value (.pointer (some ⟨c.w.heap.size,0,none⟩))) (c.w.alloc (.cells vs.toArray T)):=by kernel_rfl):
  ∃v c',(execOp ρ o).run P c.w= .ok (.value v) c'.w∧c.le c'∧∃b,v= .pointer (some ⟨b,0,none⟩)∧Own c' G (⟨.pointer (some ⟨b,0,none⟩),T,vs,0⟩ :: F):=Own.al O hr
theorem sA (T:TypeId) (us:List Value) {e:En} {b:Nat} (k:Nat) (O:Own c G F) (h1:mb us) (hx:execOp ρ o=(do Instr.storeAt T (.pointer (some ⟨b,0,none⟩)) (.agg us.toArray); pure Next.skip:Sem Next):=by kernel_rfl) (hk:F[k]? = some e:=by rfl) (hb:blk e.v=some b:=by rfl) (hlim:e.lim=0:=by rfl)
  (hs:(P.info? T).map (·.size)=some us.length:=by kernel_rfl) (hl:Nat.ble (0+us.length) e.vs.length=true:=by rfl) (hn:e.vs.take 0++us++e.vs.drop (0+us.length)=us:=by rfl):∃c',(execOp ρ o).run P c.w= .ok .skip c'.w∧c.le c'∧Own c' G (F.set k ⟨e.v,e.T,us,0⟩):=Own.st k O hx hk hb hlim rfl hs h1 hl hn
theorem sB (T j:Nat) (us nw:List Value) {e:En} {b:Nat} (k:Nat) (O:Own c G F) (h1:mb us) (hx:execOp ρ o=(do Instr.storeAt T (.pointer (some ⟨b,j,none⟩)) (.agg us.toArray); pure Next.skip:Sem Next):=by kernel_rfl) (hk:F[k]? = some e:=by rfl) (hb:blk e.v=some b:=by rfl) (hlim:e.lim=0:=by rfl)
  (hs:(P.info? T).map (·.size)=some us.length:=by kernel_rfl) (hl:Nat.ble (j+us.length) e.vs.length=true:=by rfl) (hn:e.vs.take j++us++e.vs.drop (j+us.length)=nw:=by rfl):∃c',(execOp ρ o).run P c.w= .ok .skip c'.w∧c.le c'∧Own c' G (F.set k ⟨e.v,e.T,nw,0⟩):=Own.st k O hx hk hb hlim rfl hs h1 hl hn
theorem DD {v:Value} (h:v.oneCell'=true):v.cells.toList= [v]:=by
 cases v <;> first | rfl | (simp [Value.oneCell'] at h)
theorem sC (T j:Nat) (v:Value) (nw:List Value) {e:En} {b:Nat} (k:Nat) (O:Own c G F) (h1:mb [v]) (hx:execOp ρ o=(do Instr.storeAt T (.pointer (some ⟨b,j,none⟩)) v; pure Next.skip:Sem Next):=by kernel_rfl) (hk:F[k]? = some e:=by rfl) (hb:blk e.v=some b:=by rfl) (hlim:e.lim=0:=by rfl)
  (hs:(P.info? T).map (·.size)=some 1:=by kernel_rfl) (hl:Nat.ble (j+1) e.vs.length=true:=by rfl) (hn:e.vs.take j++ [v]++e.vs.drop (j+1)=nw:=by rfl):∃c',(execOp ρ o).run P c.w= .ok .skip c'.w∧c.le c'∧Own c' G (F.set k ⟨e.v,e.T,nw,0⟩):=Own.st k O hx hk hb hlim (DD h1.1) hs h1 hl hn
theorem gB (T j:Nat) (us nw:List Value) {e:En} {b g k:Nat} {E:List En} (r:Nat) (O:Own c G F) (hE:G g k=E) (h1:mb us) (hx:execOp ρ o=(do Instr.storeAt T (.pointer (some ⟨b,j,none⟩)) (.agg us.toArray); pure Next.skip:Sem Next):=by kernel_rfl) (hr:E[r]? = some e:=by rfl) (hb:blk e.v=some b:=by rfl) (hlim:e.lim=0:=by rfl)
  (hs:(P.info? T).map (·.size)=some us.length:=by kernel_rfl) (hl:Nat.ble (j+us.length) e.vs.length=true:=by rfl) (hn:e.vs.take j++us++e.vs.drop (j+us.length)=nw:=by rfl):∃c',(execOp ρ o).run P c.w= .ok .skip c'.w∧c.le c'∧Own c' (jz G g k (E.set r ⟨e.v,e.T,nw,0⟩)) F:=Own.stG r O hx hE hr hb hlim rfl hs h1 hl hn
theorem gC (T j:Nat) (v:Value) (nw:List Value) {e:En} {b g k:Nat} {E:List En} (r:Nat) (O:Own c G F) (hE:G g k=E) (h1:mb [v]) (hx:execOp ρ o=(do Instr.storeAt T (.pointer (some ⟨b,j,none⟩)) v; pure Next.skip:Sem Next):=by kernel_rfl) (hr:E[r]? = some e:=by rfl) (hb:blk e.v=some b:=by rfl) (hlim:e.lim=0:=by rfl)
  (hs:(P.info? T).map (·.size)=some 1:=by kernel_rfl) (hl:Nat.ble (j+1) e.vs.length=true:=by rfl) (hn:e.vs.take j++ [v]++e.vs.drop (j+1)=nw:=by rfl):∃c',(execOp ρ o).run P c.w= .ok .skip c'.w∧c.le c'∧Own c' (jz G g k (E.set r ⟨e.v,e.T,nw,0⟩)) F:=Own.stG r O hx hE hr hb hlim (DD h1.1) hs h1 hl hn
theorem sl (R:Rp α) (E:TypeId) (ls:List (List Value)) (xs:List α) (O:Own c G F) (hR:oo R c ls xs) (hp:0 < R.size:=by exact aZ _) (hm:Nat.ble xs.length 4294967296=true:=by kernel_rfl)
  (hr:(execOp ρ o).run P c.w= .ok (.value (.slice (some ⟨c.w.heap.size,0,none⟩) xs.length xs.length)) (c.w.alloc (.cells ls.flatten.toArray E)):=by kernel_rfl):
  ∃v c',(execOp ρ o).run P c.w= .ok (.value v) c'.w∧c.le c'∧∃vs,Own c' G (es true R v E vs xs :: F)∧OA R c' v vs xs:=Own.sl true O hp rfl hR hm hr
theorem ap (R:Rp α) (z:Value) (by_ ty:Nat) {E t:TypeId} {v u:Value} {vs:List Value} {xs ys zs:List α} {m:Bool} (k:Nat) (O:Own c G F) (h:OA R c v vs xs) (hS:Sl R c u ys) (happ:app xs ys=some zs) (hT:P.underlying t=some (.slice E)) (hk:F[k]? = some (es m R v E vs xs):=by rfl)
  (hi:(P.info? E).map (fun i=>(i.zero,i.size,i.bytes))=some (some z,R.size,by_):=by kernel_rfl) (hz:z.cells.size=R.size:=by rfl) (hby:Nat.ble by_ 128=true:=by kernel_rfl) (hx:execOp ρ o=(do pure (Next.value (←Builtin.append_ #[t,t] ty #[v,u])):Sem Next):=by kernel_rfl):
  ∃v' c',(execOp ρ o).run P c.w= .ok (.value v') c'.w∧c.le c'∧∃vs',Own c' G (F.set k (es m R v' E vs' zs))∧OA R c' v' vs' zs:=Own.app k O hk h hS happ hT hi hz hby hx
variable {RR:Ending→World→Prop}
theorem r0 (h:RR (.returned (.tuple #[])) w) (hr:fn.results= #[]:=by rfl):nE P fn n RR .ret e w:=IC hr h
theorem n0 (h:RR (.returned (.tuple #[])) w) (hr:fn.results= #[]:=by rfl):nE P fn n RR .normal e w:=IK hr h
theorem r1 {t:Nat} {v:Value} (h:RR (.returned v) w) (hr:fn.results= #[.tmp t]:=by rfl) (hv:ev n e (.tmp t)=v:=by kernel_rfl):nE P fn n RR .ret e w:=zA hr hv h
theorem r2 {t u:Nat} {v v':Value} (h:RR (.returned (.tuple #[v,v'])) w) (hr:fn.results= #[.tmp t,.tmp u]:=by rfl) (hv:ev n e (.tmp t)=v:=by kernel_rfl) (hu:ev n e (.tmp u)=v':=by kernel_rfl):nE P fn n RR .ret e w:=IB hr hv hu h
theorem r3 {t u s:Nat} {v v' v'':Value} (h:RR (.returned (.tuple #[v,v',v''])) w) (hr:fn.results= #[.tmp t,.tmp u,.tmp s]:=by rfl) (hv:ev n e (.tmp t)=v:=by kernel_rfl) (hu:ev n e (.tmp u)=v':=by kernel_rfl) (hs:ev n e (.tmp s)=v'':=by kernel_rfl):nE P fn n RR .ret e w:=IA hr hv hu hs h
end
abbrev I (x:Int):Value:= .int .i64 x
abbrev J (x:Int):Value:= .int .i32 x
abbrev B (x:Bool):Value:= .bool x
abbrev Q (b:Nat):Value:= .pointer (some ⟨b,0,none⟩)
abbrev Qo (b o:Nat):Value:= .pointer (some ⟨b,o,none⟩)
abbrev aD (a b c:Int):Value:= .agg #[I a,I b,I c]
abbrev III (a b:Int):Value:= .agg #[I a,I b]
abbrev Ji (a b c:Int):Value:= .agg #[J a,J b,J c]
abbrev JII (a b:Int):Value:= .agg #[J a,J b]
abbrev Y:Value:= .slice none 0 0
abbrev Eb (b:Nat) (T:TypeId) (l:List Value):En:=⟨.pointer (some ⟨b,0,none⟩),T,l,0⟩
end Go.Lt
namespace Go.Lt
def qY (l:List Int):ByteArray:=⟨(l.map fun x=>UInt8.ofNat x.toNat).toArray⟩
def eqS (a b:ByteArray):Bool:=a.data.toList==b.data.toList
theorem Es {P:Program} {ρ:Operand→Value} {o:Oper} {a b:ByteArray} {w:World} (hr:(execOp ρ o).run P w= .ok (.value (.bool (a.toList==b.toList))) w):(execOp ρ o).run P w= .ok (.value (.bool (eqS a b))) w:=by
 rw [hr,pD,pD];rfl
theorem Eo {P:Program} {ρ:Operand→Value} {o:Oper} {a b:ByteArray} {w:World} (hr:(execOp ρ o).run P w= .ok (.value (.bool (!(a.toList==b.toList)))) w):(execOp ρ o).run P w= .ok (.value (.bool (!eqS a b))) w:=by
 rw [hr,pD,pD];rfl
theorem vi:∀(l:List Int) (r:ByteArray),l.foldl (fun r n=>r.push (UInt8.ofNat n.toNat)) r=⟨r.data++(qY l).data⟩
 | [],r=>by simp [qY]
 | x :: l,r=>by
  rw [Cc,vi l];simp [qY,ByteArray.push]
theorem uL {P:Program} {c:Cx} {src dst e:TypeId} {v:Value} {xs:List Int} (hs:P.underlying src=some (.slice e)) (he:P.underlying e=some (.int .u8)) (hd:P.underlying dst=some .string) (h:Sl (RI .u8) c v xs):
  (convert src dst v).run P c.w= .ok (.string (qY xs)) c.w:=by
 obtain ⟨a,cap,rfl,_,_,h4⟩:=h;rw [run_convert_bytes_string c.w src dst e a xs.length cap hs he hd]
 cases xs with
 | nil=>
  cases a with
  | none=>rfl
  | some ad=>
   have:=I1 (P:=P) c.w ad 0 cap [] (by simp [loadCells,loadCellsFrom]);exact this
 | cons y t=>
  obtain ⟨b,off,l,rfl,_,_⟩:=h4 0 y rfl;have hl:=run_loadCells_list (P:=P) (w:=c.w) ⟨b,off,none⟩ ((y :: t).map (Value.int .u8)) (fun j v hj=>by
   rw [bz,Option.map_eq_some_iff] at hj;obtain ⟨x,hx,rfl⟩:=hj;obtain ⟨b',off',l',e,hl,hc⟩:=h4 j x hx;cases e;have:=(hc 0 _ (by rw [show l'= [.int .u8 x] from hl]; rfl)).cell;rw [show off+j * (RI .u8).size+0=off+j by show off+j * 1+0=off+j; omega] at this;rw [dG];exact this)
  rw [cM] at hl;rw [I1 c.w ⟨b,off,none⟩ (y :: t).length cap (y :: t) hl,vi,show ByteArray.empty.data= #[] from rfl,xO]
abbrev T2:=Int×Int
def a2 (t:T2):List Int:=[t.1,t.2]
end Go.Lt
namespace Go.Proofs.YtclmdpamofdoiaaGreatDoor
open Go Go.Lt
set_option linter.unusedVariables false
structure ai where
 Row:Int
 Col:Int
 Pending:Bool
def xJ:Rp ai where
 size:=3
 cells:=fun _ l x=>l= [.int .i64 x.Row,.int .i64 x.Col,.bool x.Pending]
 len:=by
  intro c l x h
  obtain rfl:=h
  rfl
 one:=by
  intro c l x h v hv
  obtain rfl:=h
  simp only [gJ,eE,nk] at hv
  rcases hv with rfl | rfl | rfl
  ·rfl
  ·rfl
  ·rfl
 mono:=by
  intro c c2 l x hc h
  obtain rfl:=h
  exact rfl
structure aa where
 Kind:Int
 Text:List Int
def aw:Rp aa where
 size:=2
 cells:=fun c l x=>∃y1:Value,l= [.int .i64 x.Kind,y1]∧Sl (RI .i32) c y1 x.Text
 len:=by
  intro c l x h
  obtain ⟨_,rfl,h0⟩:=h
  rfl
 one:=by
  intro c l x h v hv
  obtain ⟨_,rfl,h0⟩:=h
  simp only [gJ,eE,nk] at hv
  rcases hv with rfl | rfl
  ·rfl
  ·exact h0.one
 mono:=by
  intro c c2 l x hc h
  obtain ⟨_,rfl,h0⟩:=h
  exact ⟨_,rfl,h0.lw hc⟩
structure ah where
 Cells:List aa
 Wrap:Bool
def aL:Rp ah where
 size:=2
 cells:=fun c l x=>∃y1:Value,l= [y1,.bool x.Wrap]∧Sl aw c y1 x.Cells
 len:=by
  intro c l x h
  obtain ⟨_,rfl,h0⟩:=h
  rfl
 one:=by
  intro c l x h v hv
  obtain ⟨_,rfl,h0⟩:=h
  simp only [gJ,eE,nk] at hv
  rcases hv with rfl | rfl
  ·exact h0.one
  ·rfl
 mono:=by
  intro c c2 l x hc h
  obtain ⟨_,rfl,h0⟩:=h
  exact ⟨_,rfl,h0.lw hc⟩
structure ag where
 L:List ah
 At:ai
 Auto:Bool
structure aM where
 Kind:Int
 A:Int
 B:Int
 Bytes:List Int
def bJ:Rp aM where
 size:=4
 cells:=fun c l x=>∃y1:Value,l= [.int .i64 x.Kind,.int .i64 x.A,.int .i64 x.B,y1]∧Sl (RI .u8) c y1 x.Bytes
 len:=by
  intro c l x h
  obtain ⟨_,rfl,h0⟩:=h
  rfl
 one:=by
  intro c l x h v hv
  obtain ⟨_,rfl,h0⟩:=h
  simp only [gJ,eE,nk] at hv
  rcases hv with rfl | rfl | rfl | rfl
  ·rfl
  ·rfl
  ·rfl
  ·exact h0.one
 mono:=by
  intro c c2 l x hc h
  obtain ⟨_,rfl,h0⟩:=h
  exact ⟨_,rfl,h0.lw hc⟩
structure aE where
 Wide:Int
 High:Int
 Lines:List ah
 At:ai
 Auto:Bool
def Ac:Rp aE where
 size:=7
 cells:=fun c l x=>∃y1:Value,l= [.int .i64 x.Wide,.int .i64 x.High,y1,.int .i64 x.At.Row,.int .i64 x.At.Col,.bool x.At.Pending,.bool x.Auto]∧Sl aL c y1 x.Lines
 len:=by
  intro c l x h
  obtain ⟨_,rfl,h0⟩:=h
  rfl
 one:=by
  intro c l x h v hv
  obtain ⟨_,rfl,h0⟩:=h
  simp only [gJ,eE,nk] at hv
  rcases hv with rfl | rfl | rfl | rfl | rfl | rfl | rfl
  ·rfl
  ·rfl
  ·exact h0.one
  ·rfl
  ·rfl
  ·rfl
  ·rfl
 mono:=by
  intro c c2 l x hc h
  obtain ⟨_,rfl,h0⟩:=h
  exact ⟨_,rfl,h0.lw hc⟩
structure nJ where
 Wide:Int
 Text:List Int
structure bB where
 held:Int
 needs:Int
 lo:Int
 hi:Int
 bits:Int
structure bu where
 some:Bool
 last:Int
 pict:Int
 conj:Int
 odd:Bool
structure am where
 Break:Int
 Pict:Bool
 Conj:Int
 East:Int
def cD:Rp am where
 size:=4
 cells:=fun _ l x=>l= [.int .i64 x.Break,.bool x.Pict,.int .i64 x.Conj,.int .i64 x.East]
 len:=by
  intro c l x h
  obtain rfl:=h
  rfl
 one:=by
  intro c l x h v hv
  obtain rfl:=h
  simp only [gJ,eE,nk] at hv
  rcases hv with rfl | rfl | rfl | rfl
  ·rfl
  ·rfl
  ·rfl
  ·rfl
 mono:=by
  intro c c2 l x hc h
  obtain rfl:=h
  exact rfl
structure aV where
 some:Bool
 pict:Bool
 wide:Bool
structure bF where
 text:Int×Int×Int×Int×Int×Int×Int×Int×Int×Int×Int×Int×Int×Int×Int×Int
 n:Int
structure gK where
 from_:Int
 to_:Int
 n:Int
def qT:Rp (Int×Int) where
 size:=2
 cells:=fun _ l x=>l= [.int .i32 x.1,.int .i32 x.2]
 len:=by
  intro c l x h
  obtain rfl:=h
  rfl
 one:=by
  intro c l x h v hv
  obtain rfl:=h
  simp only [gJ,eE,nk] at hv
  rcases hv with rfl | rfl
  ·rfl
  ·rfl
 mono:=fun _ h=>h
def aX:Rp (Int×Int) where
 size:=2
 cells:=fun _ l x=>l= [.int .i64 x.1,.int .i64 x.2]
 len:=by
  intro c l x h
  obtain rfl:=h
  rfl
 one:=by
  intro c l x h v hv
  obtain rfl:=h
  simp only [gJ,eE,nk] at hv
  rcases hv with rfl | rfl
  ·rfl
  ·rfl
 mono:=fun _ h=>h
def iz:Rp (Int×Int×Int) where
 size:=3
 cells:=fun _ l x=>l= [.int .i64 x.1,.int .i64 x.2.1,.int .i64 x.2.2]
 len:=by
  intro c l x h
  obtain rfl:=h
  rfl
 one:=by
  intro c l x h v hv
  obtain rfl:=h
  simp only [gJ,eE,nk] at hv
  rcases hv with rfl | rfl | rfl
  ·rfl
  ·rfl
  ·rfl
 mono:=fun _ h=>h
structure bp where
 cells:List aa
 wrap:Bool
structure bX where
 rows:List (Option Nat)
structure bq where
 G:Option Nat
 At:ai
 Auto:Bool
structure bj where
 at_:ai
 wide:Int
 text:bF
 gauge:aV
structure bC where
 pen:Option Nat
 dec:bB
 seg:bu
 open_:Option Nat
structure eB where
 Feeder:Option Nat
 pen:Option Nat
def eF (G G':Gm):Prop:=∀g k,G g k≠ []→G' g k=G g k
theorem eF.refl (G:Gm):eF G G:=fun _ _ _=>rfl
theorem eF.trans {a b c:Gm} (h:eF a b) (k:eF b c):eF a c:=fun g i hi=>(k g i (by rw [h g i hi]; exact hi)).trans (h g i hi)
theorem eF.get {G G':Gm} {g k:Nat} {e:En} {l:List En} (h:eF G G') (hE:G g k=e :: l):G' g k=e :: l:=(h g k (by rw [hE]; exact Jh _ _)).trans hE
theorem eF.nil {G G':Gm} {g k:Nat} (h:eF G G') (hE:G' g k= []):G g k= []:=by
 by_cases hn:G g k= []
 ·exact hn
 ·rw [h g k hn] at hE; exact hE
structure Sto where
 row_Row:List bp
 grid_Grid:List bX
 place_Pen:List bq
 widen_Cluster:List bj
 feed_Feeder:List bC
 screen_Screen:List eB
def Sto.set_row_Row (s:Sto) (k:Nat) (x:bp):Option Sto:=if k < s.row_Row.length then some { s with row_Row:=s.row_Row.set k x} else none
def Sto.add_row_Row (s:Sto) (x:bp):Sto:={ s with row_Row:=s.row_Row++ [x]}
def jN (c:Cx) (t:Option Nat) (E:List En) (x:bp):Prop:=∃(b:Nat) (y1:Value) (u1:List Value),t=some b∧E= [⟨.pointer (some ⟨b,0,none⟩),253,[y1,.bool x.wrap],0⟩,es true aw y1 114 u1 x.cells]∧OA aw c y1 u1 x.cells
theorem jN.lw {c c':Cx} (k:c.lw c') (b:Nat) (E:List En) (x:bp):jN c (some b) E x→jN c' (some b) E x:=by
 rintro ⟨b,y1,u1,e1,e2,h0⟩;exact ⟨b,y1,u1,e1,e2,h0.lw k⟩
theorem jN.no {c:Cx} (E:List En) (x:bp):¬jN c none E x:=by
 rintro ⟨b,y1,u1,e1,_⟩;cases e1
def Sto.set_grid_Grid (s:Sto) (k:Nat) (x:bX):Option Sto:=if k < s.grid_Grid.length then some { s with grid_Grid:=s.grid_Grid.set k x} else none
def Sto.add_grid_Grid (s:Sto) (x:bX):Sto:={ s with grid_Grid:=s.grid_Grid++ [x]}
def gA (c:Cx) (t:Option Nat) (E:List En) (x:bX):Prop:=∃(b:Nat) (y1:Value) (u1:List Value),t=some b∧E= [⟨.pointer (some ⟨b,0,none⟩),176,[y1],0⟩,es true (RP 0) y1 168 u1 x.rows]∧OA (RP 0) c y1 u1 x.rows
theorem gA.lw {c c':Cx} (k:c.lw c') (b:Nat) (E:List En) (x:bX):gA c (some b) E x→gA c' (some b) E x:=by
 rintro ⟨b,y1,u1,e1,e2,h0⟩;exact ⟨b,y1,u1,e1,e2,h0.lw k⟩
theorem gA.no {c:Cx} (E:List En) (x:bX):¬gA c none E x:=by
 rintro ⟨b,y1,u1,e1,_⟩;cases e1
def Sto.set_place_Pen (s:Sto) (k:Nat) (x:bq):Option Sto:=if k < s.place_Pen.length then some { s with place_Pen:=s.place_Pen.set k x} else none
def Sto.add_place_Pen (s:Sto) (x:bq):Sto:={ s with place_Pen:=s.place_Pen++ [x]}
def gy (c:Cx) (t:Option Nat) (E:List En) (x:bq):Prop:=∃(b:Nat) (y1:Value),t=some b∧E= [⟨.pointer (some ⟨b,0,none⟩),126,[y1,.int .i64 x.At.Row,.int .i64 x.At.Col,.bool x.At.Pending,.bool x.Auto],0⟩]∧Pt 1 c y1 x.G
theorem gy.lw {c c':Cx} (k:c.lw c') (b:Nat) (E:List En) (x:bq):gy c (some b) E x→gy c' (some b) E x:=by
 rintro ⟨b,y1,e1,e2,h0⟩;exact ⟨b,y1,e1,e2,h0.lw k⟩
theorem gy.no {c:Cx} (E:List En) (x:bq):¬gy c none E x:=by
 rintro ⟨b,y1,e1,_⟩;cases e1
def Sto.set_widen_Cluster (s:Sto) (k:Nat) (x:bj):Option Sto:=if k < s.widen_Cluster.length then some { s with widen_Cluster:=s.widen_Cluster.set k x} else none
def Sto.add_widen_Cluster (s:Sto) (x:bj):Sto:={ s with widen_Cluster:=s.widen_Cluster++ [x]}
def dQ (c:Cx) (t:Option Nat) (E:List En) (x:bj):Prop:=∃(b:Nat),t=some b∧E= [⟨.pointer (some ⟨b,0,none⟩),338,[.int .i64 x.at_.Row,.int .i64 x.at_.Col,.bool x.at_.Pending,.int .i64 x.wide,.int .i32 x.text.text.1,.int .i32 x.text.text.2.1,.int .i32 x.text.text.2.2.1,.int .i32 x.text.text.2.2.2.1,.int .i32 x.text.text.2.2.2.2.1,.int .i32 x.text.text.2.2.2.2.2.1,.int .i32 x.text.text.2.2.2.2.2.2.1,.int .i32 x.text.text.2.2.2.2.2.2.2.1,.int .i32 x.text.text.2.2.2.2.2.2.2.2.1,.int .i32 x.text.text.2.2.2.2.2.2.2.2.2.1,.int .i32 x.text.text.2.2.2.2.2.2.2.2.2.2.1,.int .i32 x.text.text.2.2.2.2.2.2.2.2.2.2.2.1,.int .i32 x.text.text.2.2.2.2.2.2.2.2.2.2.2.2.1,.int .i32 x.text.text.2.2.2.2.2.2.2.2.2.2.2.2.2.1,.int .i32 x.text.text.2.2.2.2.2.2.2.2.2.2.2.2.2.2.1,.int .i32 x.text.text.2.2.2.2.2.2.2.2.2.2.2.2.2.2.2,.int .i64 x.text.n,.bool x.gauge.some,.bool x.gauge.pict,.bool x.gauge.wide],0⟩]
theorem dQ.lw {c c':Cx} (k:c.lw c') (b:Nat) (E:List En) (x:bj):dQ c (some b) E x→dQ c' (some b) E x:=by
 rintro ⟨b,e1,e2⟩;exact ⟨b,e1,e2⟩
theorem dQ.no {c:Cx} (E:List En) (x:bj):¬dQ c none E x:=by
 rintro ⟨b,e1,_⟩;cases e1
def Sto.set_feed_Feeder (s:Sto) (k:Nat) (x:bC):Option Sto:=if k < s.feed_Feeder.length then some { s with feed_Feeder:=s.feed_Feeder.set k x} else none
def Sto.add_feed_Feeder (s:Sto) (x:bC):Sto:={ s with feed_Feeder:=s.feed_Feeder++ [x]}
def eR (c:Cx) (t:Option Nat) (E:List En) (x:bC):Prop:=∃(b:Nat) (y1:Value) (y2:Value),t=some b∧E= [⟨.pointer (some ⟨b,0,none⟩),184,[y1,.int .i64 x.dec.held,.int .i64 x.dec.needs,.int .u8 x.dec.lo,.int .u8 x.dec.hi,.int .i64 x.dec.bits,.bool x.seg.some,.int .i64 x.seg.last,.int .i64 x.seg.pict,.int .i64 x.seg.conj,.bool x.seg.odd,y2],0⟩]∧Pt 2 c y1 x.pen∧Pt 3 c y2 x.open_
theorem eR.lw {c c':Cx} (k:c.lw c') (b:Nat) (E:List En) (x:bC):eR c (some b) E x→eR c' (some b) E x:=by
 rintro ⟨b,y1,y2,e1,e2,h0,h1⟩;exact ⟨b,y1,y2,e1,e2,h0.lw k,h1.lw k⟩
theorem eR.no {c:Cx} (E:List En) (x:bC):¬eR c none E x:=by
 rintro ⟨b,y1,y2,e1,_⟩;cases e1
def Sto.add_screen_Screen (s:Sto) (x:eB):Sto:={ s with screen_Screen:=s.screen_Screen++ [x]}
def eA (c:Cx) (t:Option Nat) (E:List En) (x:eB):Prop:=∃(b:Nat) (y1:Value) (y2:Value),t=some b∧E= [⟨.pointer (some ⟨b,0,none⟩),131,[y1,y2],0⟩]∧Pt 4 c y1 x.Feeder∧Pt 2 c y2 x.pen
theorem eA.lw {c c':Cx} (k:c.lw c') (b:Nat) (E:List En) (x:eB):eA c (some b) E x→eA c' (some b) E x:=by
 rintro ⟨b,y1,y2,e1,e2,h0,h1⟩;exact ⟨b,y1,y2,e1,e2,h0.lw k,h1.lw k⟩
theorem eA.no {c:Cx} (E:List En) (x:eB):¬eA c none E x:=by
 rintro ⟨b,y1,y2,e1,_⟩;cases e1
structure Rel (c:Cx) (s:Sto) (G:Gm):Prop where
 row_Row:Rl jN 0 c G s.row_Row
 grid_Grid:Rl gA 1 c G s.grid_Grid
 place_Pen:Rl gy 2 c G s.place_Pen
 widen_Cluster:Rl dQ 3 c G s.widen_Cluster
 feed_Feeder:Rl eR 4 c G s.feed_Feeder
 screen_Screen:Rl eA 5 c G s.screen_Screen
theorem Rel.lw {c c':Cx} {s:Sto} {G:Gm} (h:Rel c s G) (k:c.lw c'):Rel c' s G:=
 ⟨h.row_Row.mono (jN.lw k) jN.no k,h.grid_Grid.mono (gA.lw k) gA.no k,h.place_Pen.mono (gy.lw k) gy.no k,h.widen_Cluster.mono (dQ.lw k) dQ.no k,h.feed_Feeder.mono (eR.lw k) eR.no k,h.screen_Screen.mono (eA.lw k) eA.no k⟩
theorem Rel.mono {c c':Cx} {s:Sto} {G:Gm} (h:Rel c s G) (k:c.le c'):Rel c' s G:=h.lw k.lw
theorem Rel.m {c c':Cx} {s:Sto} {G:Gm} (h:Rel c s G) (k:c.le c':=by repeat (first | assumption | refine Cx.le.trans ?_ (by assumption))):Rel c' s G:=h.mono k
theorem Rel.open_row_Row {c:Cx} {s:Sto} {G:Gm} {k b:Nat} {x:bp} (R:Rel c s G) (hx:s.row_Row[k]? = some x) (ht:c.t 0 k=some b):∃(y1:Value) (u1:List Value),G 0 k= [⟨.pointer (some ⟨b,0,none⟩),253,[y1,.bool x.wrap],0⟩,es true aw y1 114 u1 x.cells]∧OA aw c y1 u1 x.cells:=by
 obtain ⟨b',y1,u1,e1,e2,h0⟩:=R.row_Row.ob k x hx;rw [ht] at e1;cases e1;exact ⟨y1,u1,e2,h0⟩
theorem Rel.put_row_Row {c:Cx} {s s':Sto} {G:Gm} {F:List En} {k:Nat} {E':List En} {x':bp} (O:Own c (jz G 0 k E') F) (R:Rel c s G) (h:s.set_row_Row k x'=some s') (hY:jN c (c.t 0 k) E' x'):
  ∃G',Own c G' F∧Rel c s' G'∧G' 0 k=E'∧∀G0,eF G0 G→G0 0 k= []→eF G0 G':=by
 unfold Sto.set_row_Row at h;split at h
 ·rename_i hk
  cases h;refine ⟨_,O,⟨R.row_Row.set hk hY,R.grid_Grid.other (by decide),R.place_Pen.other (by decide),R.widen_Cluster.other (by decide),R.feed_Feeder.other (by decide),R.screen_Screen.other (by decide)⟩,db _ _ _ _,fun G0 h1 h2 g' k' h3=>?_⟩;rw [fE (by rintro ⟨rfl,rfl⟩; exact h3 h2)];exact h1 g' k' h3
 ·cases h
theorem Rel.new_row_Row {c:Cx} {s:Sto} {G:Gm} {F E:List En} {x:bp} {b:Nat} (O:Own c G (E++F)) (R:Rel c s G) (hY:∀c',c.le c'→jN c' (some b) E x):
  ∃c' G',(c'.w=c.w∧c'.A=c.A)∧c.le c'∧c'.t 0 s.row_Row.length=some b∧Own c' G' F∧Rel c' (s.add_row_Row x) G'∧G' 0 s.row_Row.length=E∧G 0 s.row_Row.length= []∧eF G G':=by
 have hE:=R.row_Row.no _ (ay _);have hne:E≠ []:=by
  obtain ⟨_,_,_,_,rfl,_⟩:=hY c (Cx.le.refl c);simp
 obtain ⟨c',hw,hle,ht,O'⟩:=Own.newObj (b:=b) O hE hne;have R':=R.mono hle;refine ⟨c',_,hw,hle,ht,O',⟨R'.row_Row.new (by rw [ht]; exact hY c' hle),R'.grid_Grid.other (by decide),R'.place_Pen.other (by decide),R'.widen_Cluster.other (by decide),R'.feed_Feeder.other (by decide),R'.screen_Screen.other (by decide)⟩,db _ _ _ _,hE,fun g' k' h3=>?_⟩;exact fE (by rintro ⟨rfl,rfl⟩; exact h3 hE)
theorem Rel.open_grid_Grid {c:Cx} {s:Sto} {G:Gm} {k b:Nat} {x:bX} (R:Rel c s G) (hx:s.grid_Grid[k]? = some x) (ht:c.t 1 k=some b):∃(y1:Value) (u1:List Value),G 1 k= [⟨.pointer (some ⟨b,0,none⟩),176,[y1],0⟩,es true (RP 0) y1 168 u1 x.rows]∧OA (RP 0) c y1 u1 x.rows:=by
 obtain ⟨b',y1,u1,e1,e2,h0⟩:=R.grid_Grid.ob k x hx;rw [ht] at e1;cases e1;exact ⟨y1,u1,e2,h0⟩
theorem Rel.put_grid_Grid {c:Cx} {s s':Sto} {G:Gm} {F:List En} {k:Nat} {E':List En} {x':bX} (O:Own c (jz G 1 k E') F) (R:Rel c s G) (h:s.set_grid_Grid k x'=some s') (hY:gA c (c.t 1 k) E' x'):
  ∃G',Own c G' F∧Rel c s' G'∧G' 1 k=E'∧∀G0,eF G0 G→G0 1 k= []→eF G0 G':=by
 unfold Sto.set_grid_Grid at h;split at h
 ·rename_i hk
  cases h;refine ⟨_,O,⟨R.row_Row.other (by decide),R.grid_Grid.set hk hY,R.place_Pen.other (by decide),R.widen_Cluster.other (by decide),R.feed_Feeder.other (by decide),R.screen_Screen.other (by decide)⟩,db _ _ _ _,fun G0 h1 h2 g' k' h3=>?_⟩;rw [fE (by rintro ⟨rfl,rfl⟩; exact h3 h2)];exact h1 g' k' h3
 ·cases h
theorem Rel.new_grid_Grid {c:Cx} {s:Sto} {G:Gm} {F E:List En} {x:bX} {b:Nat} (O:Own c G (E++F)) (R:Rel c s G) (hY:∀c',c.le c'→gA c' (some b) E x):
  ∃c' G',(c'.w=c.w∧c'.A=c.A)∧c.le c'∧c'.t 1 s.grid_Grid.length=some b∧Own c' G' F∧Rel c' (s.add_grid_Grid x) G'∧G' 1 s.grid_Grid.length=E∧G 1 s.grid_Grid.length= []∧eF G G':=by
 have hE:=R.grid_Grid.no _ (ay _);have hne:E≠ []:=by
  obtain ⟨_,_,_,_,rfl,_⟩:=hY c (Cx.le.refl c);simp
 obtain ⟨c',hw,hle,ht,O'⟩:=Own.newObj (b:=b) O hE hne;have R':=R.mono hle;refine ⟨c',_,hw,hle,ht,O',⟨R'.row_Row.other (by decide),R'.grid_Grid.new (by rw [ht]; exact hY c' hle),R'.place_Pen.other (by decide),R'.widen_Cluster.other (by decide),R'.feed_Feeder.other (by decide),R'.screen_Screen.other (by decide)⟩,db _ _ _ _,hE,fun g' k' h3=>?_⟩;exact fE (by rintro ⟨rfl,rfl⟩; exact h3 hE)
theorem Rel.open_place_Pen {c:Cx} {s:Sto} {G:Gm} {k b:Nat} {x:bq} (R:Rel c s G) (hx:s.place_Pen[k]? = some x) (ht:c.t 2 k=some b):∃(y1:Value),G 2 k= [⟨.pointer (some ⟨b,0,none⟩),126,[y1,.int .i64 x.At.Row,.int .i64 x.At.Col,.bool x.At.Pending,.bool x.Auto],0⟩]∧Pt 1 c y1 x.G:=by
 obtain ⟨b',y1,e1,e2,h0⟩:=R.place_Pen.ob k x hx;rw [ht] at e1;cases e1;exact ⟨y1,e2,h0⟩
theorem Rel.put_place_Pen {c:Cx} {s s':Sto} {G:Gm} {F:List En} {k:Nat} {E':List En} {x':bq} (O:Own c (jz G 2 k E') F) (R:Rel c s G) (h:s.set_place_Pen k x'=some s') (hY:gy c (c.t 2 k) E' x'):
  ∃G',Own c G' F∧Rel c s' G'∧G' 2 k=E'∧∀G0,eF G0 G→G0 2 k= []→eF G0 G':=by
 unfold Sto.set_place_Pen at h;split at h
 ·rename_i hk
  cases h;refine ⟨_,O,⟨R.row_Row.other (by decide),R.grid_Grid.other (by decide),R.place_Pen.set hk hY,R.widen_Cluster.other (by decide),R.feed_Feeder.other (by decide),R.screen_Screen.other (by decide)⟩,db _ _ _ _,fun G0 h1 h2 g' k' h3=>?_⟩;rw [fE (by rintro ⟨rfl,rfl⟩; exact h3 h2)];exact h1 g' k' h3
 ·cases h
theorem Rel.new_place_Pen {c:Cx} {s:Sto} {G:Gm} {F E:List En} {x:bq} {b:Nat} (O:Own c G (E++F)) (R:Rel c s G) (hY:∀c',c.le c'→gy c' (some b) E x):
  ∃c' G',(c'.w=c.w∧c'.A=c.A)∧c.le c'∧c'.t 2 s.place_Pen.length=some b∧Own c' G' F∧Rel c' (s.add_place_Pen x) G'∧G' 2 s.place_Pen.length=E∧G 2 s.place_Pen.length= []∧eF G G':=by
 have hE:=R.place_Pen.no _ (ay _);have hne:E≠ []:=by
  obtain ⟨_,_,_,rfl,_⟩:=hY c (Cx.le.refl c);simp
 obtain ⟨c',hw,hle,ht,O'⟩:=Own.newObj (b:=b) O hE hne;have R':=R.mono hle;refine ⟨c',_,hw,hle,ht,O',⟨R'.row_Row.other (by decide),R'.grid_Grid.other (by decide),R'.place_Pen.new (by rw [ht]; exact hY c' hle),R'.widen_Cluster.other (by decide),R'.feed_Feeder.other (by decide),R'.screen_Screen.other (by decide)⟩,db _ _ _ _,hE,fun g' k' h3=>?_⟩;exact fE (by rintro ⟨rfl,rfl⟩; exact h3 hE)
theorem Rel.open_widen_Cluster {c:Cx} {s:Sto} {G:Gm} {k b:Nat} {x:bj} (R:Rel c s G) (hx:s.widen_Cluster[k]? = some x) (ht:c.t 3 k=some b):G 3 k= [⟨.pointer (some ⟨b,0,none⟩),338,[.int .i64 x.at_.Row,.int .i64 x.at_.Col,.bool x.at_.Pending,.int .i64 x.wide,.int .i32 x.text.text.1,.int .i32 x.text.text.2.1,.int .i32 x.text.text.2.2.1,.int .i32 x.text.text.2.2.2.1,.int .i32 x.text.text.2.2.2.2.1,.int .i32 x.text.text.2.2.2.2.2.1,.int .i32 x.text.text.2.2.2.2.2.2.1,.int .i32 x.text.text.2.2.2.2.2.2.2.1,.int .i32 x.text.text.2.2.2.2.2.2.2.2.1,.int .i32 x.text.text.2.2.2.2.2.2.2.2.2.1,.int .i32 x.text.text.2.2.2.2.2.2.2.2.2.2.1,.int .i32 x.text.text.2.2.2.2.2.2.2.2.2.2.2.1,.int .i32 x.text.text.2.2.2.2.2.2.2.2.2.2.2.2.1,.int .i32 x.text.text.2.2.2.2.2.2.2.2.2.2.2.2.2.1,.int .i32 x.text.text.2.2.2.2.2.2.2.2.2.2.2.2.2.2.1,.int .i32 x.text.text.2.2.2.2.2.2.2.2.2.2.2.2.2.2.2,.int .i64 x.text.n,.bool x.gauge.some,.bool x.gauge.pict,.bool x.gauge.wide],0⟩]:=by
 obtain ⟨b',e1,e2⟩:=R.widen_Cluster.ob k x hx;rw [ht] at e1;cases e1;exact e2
theorem Rel.put_widen_Cluster {c:Cx} {s s':Sto} {G:Gm} {F:List En} {k:Nat} {E':List En} {x':bj} (O:Own c (jz G 3 k E') F) (R:Rel c s G) (h:s.set_widen_Cluster k x'=some s') (hY:dQ c (c.t 3 k) E' x'):
  ∃G',Own c G' F∧Rel c s' G'∧G' 3 k=E'∧∀G0,eF G0 G→G0 3 k= []→eF G0 G':=by
 unfold Sto.set_widen_Cluster at h;split at h
 ·rename_i hk
  cases h;refine ⟨_,O,⟨R.row_Row.other (by decide),R.grid_Grid.other (by decide),R.place_Pen.other (by decide),R.widen_Cluster.set hk hY,R.feed_Feeder.other (by decide),R.screen_Screen.other (by decide)⟩,db _ _ _ _,fun G0 h1 h2 g' k' h3=>?_⟩;rw [fE (by rintro ⟨rfl,rfl⟩; exact h3 h2)];exact h1 g' k' h3
 ·cases h
theorem Rel.new_widen_Cluster {c:Cx} {s:Sto} {G:Gm} {F E:List En} {x:bj} {b:Nat} (O:Own c G (E++F)) (R:Rel c s G) (hY:∀c',c.le c'→dQ c' (some b) E x):
  ∃c' G',(c'.w=c.w∧c'.A=c.A)∧c.le c'∧c'.t 3 s.widen_Cluster.length=some b∧Own c' G' F∧Rel c' (s.add_widen_Cluster x) G'∧G' 3 s.widen_Cluster.length=E∧G 3 s.widen_Cluster.length= []∧eF G G':=by
 have hE:=R.widen_Cluster.no _ (ay _);have hne:E≠ []:=by
  obtain ⟨_,_,rfl,_⟩:=hY c (Cx.le.refl c);simp
 obtain ⟨c',hw,hle,ht,O'⟩:=Own.newObj (b:=b) O hE hne;have R':=R.mono hle;refine ⟨c',_,hw,hle,ht,O',⟨R'.row_Row.other (by decide),R'.grid_Grid.other (by decide),R'.place_Pen.other (by decide),R'.widen_Cluster.new (by rw [ht]; exact hY c' hle),R'.feed_Feeder.other (by decide),R'.screen_Screen.other (by decide)⟩,db _ _ _ _,hE,fun g' k' h3=>?_⟩;exact fE (by rintro ⟨rfl,rfl⟩; exact h3 hE)
theorem Rel.open_feed_Feeder {c:Cx} {s:Sto} {G:Gm} {k b:Nat} {x:bC} (R:Rel c s G) (hx:s.feed_Feeder[k]? = some x) (ht:c.t 4 k=some b):∃(y1:Value) (y2:Value),G 4 k= [⟨.pointer (some ⟨b,0,none⟩),184,[y1,.int .i64 x.dec.held,.int .i64 x.dec.needs,.int .u8 x.dec.lo,.int .u8 x.dec.hi,.int .i64 x.dec.bits,.bool x.seg.some,.int .i64 x.seg.last,.int .i64 x.seg.pict,.int .i64 x.seg.conj,.bool x.seg.odd,y2],0⟩]∧Pt 2 c y1 x.pen∧Pt 3 c y2 x.open_:=by
 obtain ⟨b',y1,y2,e1,e2,h0,h1⟩:=R.feed_Feeder.ob k x hx;rw [ht] at e1;cases e1;exact ⟨y1,y2,e2,h0,h1⟩
theorem Rel.put_feed_Feeder {c:Cx} {s s':Sto} {G:Gm} {F:List En} {k:Nat} {E':List En} {x':bC} (O:Own c (jz G 4 k E') F) (R:Rel c s G) (h:s.set_feed_Feeder k x'=some s') (hY:eR c (c.t 4 k) E' x'):
  ∃G',Own c G' F∧Rel c s' G'∧G' 4 k=E'∧∀G0,eF G0 G→G0 4 k= []→eF G0 G':=by
 unfold Sto.set_feed_Feeder at h;split at h
 ·rename_i hk
  cases h;refine ⟨_,O,⟨R.row_Row.other (by decide),R.grid_Grid.other (by decide),R.place_Pen.other (by decide),R.widen_Cluster.other (by decide),R.feed_Feeder.set hk hY,R.screen_Screen.other (by decide)⟩,db _ _ _ _,fun G0 h1 h2 g' k' h3=>?_⟩;rw [fE (by rintro ⟨rfl,rfl⟩; exact h3 h2)];exact h1 g' k' h3
 ·cases h
theorem Rel.new_feed_Feeder {c:Cx} {s:Sto} {G:Gm} {F E:List En} {x:bC} {b:Nat} (O:Own c G (E++F)) (R:Rel c s G) (hY:∀c',c.le c'→eR c' (some b) E x):
  ∃c' G',(c'.w=c.w∧c'.A=c.A)∧c.le c'∧c'.t 4 s.feed_Feeder.length=some b∧Own c' G' F∧Rel c' (s.add_feed_Feeder x) G'∧G' 4 s.feed_Feeder.length=E∧G 4 s.feed_Feeder.length= []∧eF G G':=by
 have hE:=R.feed_Feeder.no _ (ay _);have hne:E≠ []:=by
  obtain ⟨_,_,_,_,rfl,_⟩:=hY c (Cx.le.refl c);simp
 obtain ⟨c',hw,hle,ht,O'⟩:=Own.newObj (b:=b) O hE hne;have R':=R.mono hle;refine ⟨c',_,hw,hle,ht,O',⟨R'.row_Row.other (by decide),R'.grid_Grid.other (by decide),R'.place_Pen.other (by decide),R'.widen_Cluster.other (by decide),R'.feed_Feeder.new (by rw [ht]; exact hY c' hle),R'.screen_Screen.other (by decide)⟩,db _ _ _ _,hE,fun g' k' h3=>?_⟩;exact fE (by rintro ⟨rfl,rfl⟩; exact h3 hE)
theorem Rel.open_screen_Screen {c:Cx} {s:Sto} {G:Gm} {k b:Nat} {x:eB} (R:Rel c s G) (hx:s.screen_Screen[k]? = some x) (ht:c.t 5 k=some b):∃(y1:Value) (y2:Value),G 5 k= [⟨.pointer (some ⟨b,0,none⟩),131,[y1,y2],0⟩]∧Pt 4 c y1 x.Feeder∧Pt 2 c y2 x.pen:=by
 obtain ⟨b',y1,y2,e1,e2,h0,h1⟩:=R.screen_Screen.ob k x hx;rw [ht] at e1;cases e1;exact ⟨y1,y2,e2,h0,h1⟩
theorem Rel.new_screen_Screen {c:Cx} {s:Sto} {G:Gm} {F E:List En} {x:eB} {b:Nat} (O:Own c G (E++F)) (R:Rel c s G) (hY:∀c',c.le c'→eA c' (some b) E x):
  ∃c' G',(c'.w=c.w∧c'.A=c.A)∧c.le c'∧c'.t 5 s.screen_Screen.length=some b∧Own c' G' F∧Rel c' (s.add_screen_Screen x) G'∧G' 5 s.screen_Screen.length=E∧G 5 s.screen_Screen.length= []∧eF G G':=by
 have hE:=R.screen_Screen.no _ (ay _);have hne:E≠ []:=by
  obtain ⟨_,_,_,_,rfl,_⟩:=hY c (Cx.le.refl c);simp
 obtain ⟨c',hw,hle,ht,O'⟩:=Own.newObj (b:=b) O hE hne;have R':=R.mono hle;refine ⟨c',_,hw,hle,ht,O',⟨R'.row_Row.other (by decide),R'.grid_Grid.other (by decide),R'.place_Pen.other (by decide),R'.widen_Cluster.other (by decide),R'.feed_Feeder.other (by decide),R'.screen_Screen.new (by rw [ht]; exact hY c' hle)⟩,db _ _ _ _,hE,fun g' k' h3=>?_⟩;exact fE (by rintro ⟨rfl,rfl⟩; exact h3 hE)
def Gl (n:List Nat) (c:Cx):Prop:=(∀g,g∈n→∃v,RE 350 144 c v (.sent g))∧∀g g',g∈n→g'∈n→g≠g'→∀a,Im c g 0 (.iface 350 (.pointer (some a)))→Im c g' 0 (.iface 350 (.pointer (some a)))→False
theorem Gl.lw {n:List Nat} {c c':Cx} (h:Gl n c) (k:c.lw c'):Gl n c':=by
 have key:∀g,g∈n→∀u,Im c' g 0 u→Im c g 0 u:=fun g hg u hu=>by
  obtain ⟨v,hv⟩:=h.1 g hg;have h1:=hv.im;have h2:=h1.lw k;have h3:=h2.cell.symm.trans hu.cell;cases h3;exact h1
 exact ⟨fun g hg=>(h.1 g hg).imp fun v hv=>hv.lw k,fun g g' hg hg' hne a h1 h2=>h.2 g g' hg hg' hne a (key g hg _ h1) (key g' hg' _ h2)⟩
theorem Gl.mono {n:List Nat} {c c':Cx} (h:Gl n c) (k:c.le c'):Gl n c':=h.lw k.lw
theorem Gl.m {n:List Nat} {c c':Cx} (h:Gl n c) (k:c.le c':=by repeat (first | assumption | refine Cx.le.trans ?_ (by assumption))):Gl n c':=h.mono k
theorem Gl.le {n m:List Nat} {c:Cx} (h:Gl n c) (k:∀g∈m,g∈n):Gl m c:=⟨fun g hg=>h.1 g (k g hg),fun g g' hg hg'=>h.2 g g' (k g hg) (k g' hg')⟩
theorem Gl.get {n:List Nat} {c:Cx} (h:Gl n c) (g:Nat) (hg:g∈n):∃v,RE 350 144 c v (.sent g):=h.1 g hg
end Go.Proofs.YtclmdpamofdoiaaGreatDoor
namespace Go.Proofs.YtclmdpamofdoiaaGreatDoor
open Go Go.Lt
set_option maxRecDepth 10000
set_option linter.unusedVariables false
attribute [local irreducible] W WL AC
def fO (p0:List Int):Option (List Int):=app [] p0
abbrev tT:= @Tryz.underlying119
abbrev eU:= @Tryz.underlying124
abbrev Ak:= @Tryz.underlying128
abbrev Aj:= @Tryz.underlying168
abbrev ml:= @Tryz.underlying174
abbrev jR:= @Tryz.underlying191
abbrev mh:= @Tryz.underlying21
abbrev nK:= @Tryz.underlying22
abbrev ws:= @Tryz.underlying260
abbrev fg:= @Tryz.underlying27
abbrev u_3:= @Tryz.underlying3
abbrev cy:= @Tryz.underlying32
abbrev iA:= @Tryz.underlying323
abbrev tS:= @Tryz.underlying327
abbrev tg:= @Tryz.underlying33
abbrev wq:= @Tryz.underlying333
abbrev wo:= @Tryz.underlying335
abbrev u_4:= @Tryz.underlying4
abbrev cI:= @Tryz.underlying46
abbrev u_5:= @Tryz.underlying5
abbrev rS:= @Tryz.underlying66
abbrev uF:= @Tryz.underlying89
abbrev u_9:= @Tryz.underlying9
theorem vt {c0:Cx} {G:Gm} {F:List En} {v1:Value} (O0:Own c0 G F) (p0:List Int) (h1:Sl (RI .i32) c0 v1 p0) {r:List Int} (H:fO p0=some r):
  Calls Tryz.prog 96 #[v1] c0.w (aP c0 fun c v=>∃y1:Value,∃y2:List Value,Own c G (es true (RI .i32) y1 21 y2 r :: F)∧v=y1∧OA (RI .i32) c y1 y2 r):=by
 unfold fO at H
 have hS:=h1
 obtain ⟨a,cap,rfl,h2,h3,h4⟩:=h1
 refine enter (l:=[.slice a p0.length cap]) Tryz.func96 rfl rfl rfl ?_
 refine W.seq ?_
 refine W.region ?_
 refine WL.val0 (v:= .slice none 0 0) rfl (by kernel_rfl) ?_
 refine WL.nil ?_
 refine nrm ?_
 cases a with
 | none=>
  obtain rfl:p0= []:=by
   cases p0 with
   | nil=>rfl
   | cons x t=>
    obtain ⟨b,off,l,e,_⟩:=h4 0 x rfl
    cases e
  obtain rfl:r= []:=by simpa [app] using H.symm
  refine W.seq ?_
  refine W.seq ?_
  refine W.region ?_
  refine WL.val0 (v:= .slice none 0 cap) rfl (by kernel_rfl) ?_
  refine WL.val0 (v:= .bool true) rfl (by kernel_rfl) ?_
  refine WL.nil ?_
  refine nrm ?_
  refine W.cond (t:=true) (by kernel_rfl) (fun _=>?_) (fun h=>by cases h)
  refine W.seq ?_
  refine W.region ?_
  refine WL.val0 (v:= .slice none 0 0) rfl (by kernel_rfl) ?_
  refine WL.nil ?_
  refine nrm ?_
  refine W.ret ?_
  refine thr ?_
  have O1:=O0.addHole (e:=es true (RI .i32) (.slice none 0 0) 21 [] ([]:List Int)) rfl
  exact zA (v:= .slice none 0 0) rfl (by kernel_rfl) ⟨_,c0,rfl,rfl,Cx.le.refl _,_,_,O1,rfl,OA.nil (aZ _)⟩
 | some ad=>
  refine W.seq ?_
  refine W.seq ?_
  refine W.region ?_
  refine WL.val0 (v:= .slice (some ad) p0.length cap) rfl (by kernel_rfl) ?_
  refine WL.val0 (v:= .bool false) rfl (by kernel_rfl) ?_
  refine WL.nil ?_
  refine nrm ?_
  refine W.cond (t:=false) (by kernel_rfl) (fun h=>by cases h) (fun _=>?_)
  refine W.skip ?_
  refine nrm ?_
  refine W.seq ?_
  refine W.region ?_
  refine WL.mem rfl (Own.sl (R:=RI .i32) (E:=21) (ls:=[]) (vs:=[]) (xs:=([]:List Int)) true O0 (aZ _) rfl trivial (by kernel_rfl) (by kernel_rfl)) ?_
  rintro v5 c1 l1 ⟨u1,O1,a1⟩
  refine WL.val0 (v:= .slice (some ad) p0.length cap) rfl (by kernel_rfl) ?_
  refine WL.mem rfl (Own.app (R:=RI .i32) (z:= .int .i32 0) (by_:=4) (ty:=32) 0 O1 rfl a1 (hS.mono l1) H Tryz.underlying32 (by kernel_rfl) rfl (by kernel_rfl) (by kernel_rfl)) ?_
  rintro v6 c2 l2 ⟨u2,O2,a2⟩
  refine WL.val0 (v:=v6) rfl (by kernel_rfl) ?_
  refine WL.nil ?_
  refine nrm ?_
  refine W.ret ?_
  exact zA (v:=v6) rfl (by kernel_rfl) ⟨_,c2,rfl,rfl,l1.trans l2,_,_,O2,rfl,a2⟩
def iM (p0:Int) (p1:Er):Option Er:=some (.fault p0 p1)
theorem mU {c0:Cx} {G:Gm} {F:List En} {v2:Value} (O0:Own c0 G F) (p0:Int) (p1:Er) (h1:RE 350 144 c0 v2 p1) {r:Er} (H:iM p0 p1=some r): Calls Tryz.prog 81 #[.int .i64 p0,v2] c0.w (aP c0 fun c v=>∃y1:Value,Own c G F∧v=y1∧RE 350 144 c y1 r):=by
 obtain rfl:=bi H;refine enter (l:=[.int .i64 p0,v2]) Tryz.func81 rfl rfl rfl ?_;refine W.seq ?_;refine W.region ?_;refine WL.val0 (v:= .nilIface) rfl (by kernel_rfl) ?_;refine WL.nil ?_;refine nrm ?_;refine W.seq ?_;refine W.region ?_;refine WL.val0 (v:= .int .i64 p0) rfl (by kernel_rfl) ?_;refine WL.val0 (v:=v2) rfl (by kernel_rfl) ?_;refine WL.val0 (v:= .agg #[.int .i64 p0,v2]) rfl (by rcases h1.cs3 with rfl | ⟨t,a,rfl⟩ <;> kernel_rfl) ?_;refine WL.mem rfl (Own.bx (T:=148) (vs:=[.int .i64 p0,v2]) O0 (by kernel_rfl)) ?_;rintro v5 c1 l1 ⟨b,rfl,O1,hm⟩;refine WL.val0 (v:= .iface 144 (.pointer (some ⟨b,0,none⟩))) rfl (by kernel_rfl) ?_;refine WL.val0 (v:= .iface 144 (.pointer (some ⟨b,0,none⟩))) rfl (by kernel_rfl) ?_;refine WL.nil ?_;refine nrm ?_;refine W.ret ?_;exact zA (v:= .iface 144 (.pointer (some ⟨b,0,none⟩))) rfl (by kernel_rfl) ⟨_,c1,rfl,rfl,l1,_,O1,rfl,_,_,rfl,hm 0 _ rfl,hm 1 _ rfl,h1.mono l1⟩
theorem ul {c0:Cx} {G:Gm} {F:List En} {e0:En} {b j n:Nat} {p0:List Int} (O0:Own c0 G (e0 :: F)) (hb:blk e0.v=some b) (hn:p0.length=n) (hv:∀m u,(p0.map (.int .i32))[m]? = some u→e0.vs[j+m]? = some u) {r:List Int} (H:fO p0=some r):
  Calls Tryz.prog 96 #[.slice (some ⟨b,j,none⟩) n 16] c0.w (aP c0 fun c v=>∃y1:Value,∃y2:List Value,Own c G (es true (RI .i32) y1 21 y2 r :: e0 :: F)∧v=y1∧OA (RI .i32) c y1 y2 r):=by
 unfold fO at H
 subst hn
 refine enter (l:=[.slice (some ⟨b,j,none⟩) p0.length 16]) Tryz.func96 rfl rfl rfl ?_
 refine W.seq ?_
 refine W.region ?_
 refine WL.val0 (v:= .slice none 0 0) rfl (by kernel_rfl) ?_
 refine WL.nil ?_
 refine nrm ?_
 refine W.seq ?_
 refine W.seq ?_
 refine W.region ?_
 refine WL.val0 (v:= .slice (some ⟨b,j,none⟩) p0.length 16) rfl (by kernel_rfl) ?_
 refine WL.val0 (v:= .bool false) rfl (by kernel_rfl) ?_
 refine WL.nil ?_
 refine nrm ?_
 refine W.cond (t:=false) (by kernel_rfl) (fun h=>by cases h) (fun _=>?_)
 refine W.skip ?_
 refine nrm ?_
 refine W.seq ?_
 refine W.region ?_
 refine WL.mem rfl (Own.sl (R:=RI .i32) (E:=21) (ls:=[]) (vs:=[]) (xs:=([]:List Int)) true O0 (aZ _) rfl trivial (by kernel_rfl) (by kernel_rfl)) ?_
 rintro v5 c1 l1 ⟨u1,O1,a1⟩
 refine WL.val0 (v:= .slice (some ⟨b,j,none⟩) p0.length 16) rfl (by kernel_rfl) ?_
 have hon:=O1.on 1 rfl
 refine WL.mem rfl (Own.appSrc (R:=RI .i32) (nw:=p0.map (.int .i32)) (ua:=some ⟨b,j,none⟩) (ucap:=16) (z:= .int .i32 0) (by_:=4) (ty:=32) 0 O1 rfl a1 (by rw [cM]; exact (Ik _).symm) (fun _=>⟨b,j,rfl,fun m u hu=>(hon.cell hb (j+m)).trans (hv m u hu)⟩) (fun w hw=>by
  obtain ⟨x,_,rfl⟩:=List.mem_map.1 hw
  rfl) (fun i x hx=>by
  show ((p0.map (Value.int .i32)).drop (i * 1)).take 1= [.int .i32 x]
  have hlt:=(List.getElem?_eq_some_iff.1 hx).1
  have he:=(List.getElem?_eq_some_iff.1 hx).2
  rw [Ik,qZ (by rw [cM]; exact hlt),Iy,fW,dR,he]) H Tryz.underlying32 (by kernel_rfl) rfl (by kernel_rfl) (by kernel_rfl)) ?_
 rintro v6 c2 l2 ⟨u2,O2,a2⟩
 refine WL.val0 (v:=v6) rfl (by kernel_rfl) ?_
 refine WL.nil ?_
 refine nrm ?_
 refine W.ret ?_
 exact zA (v:=v6) rfl (by kernel_rfl) ⟨_,c2,rfl,rfl,l1.trans l2,_,_,O2,rfl,a2⟩
end Go.Proofs.YtclmdpamofdoiaaGreatDoor
namespace Go.Lt
open Go
def RER (S T:TypeId):Rp Er where
 size:=1
 cells:=fun c l x=>∃v,l= [v]∧RE S T c v x
 len:=fun h=>by obtain ⟨v,rfl,_⟩:=h; rfl
 one:=by
  rintro c l x ⟨v,rfl,h⟩ u hu
  rw [List.mem_singleton.1 hu]
  exact h.one
 mono:=fun k h=>by obtain ⟨v,rfl,h⟩:=h; exact ⟨v,rfl,h.lw k⟩
theorem Own.slE {P:Program} {c:Cx} {G:Gm} {F:List En} {ρ:Operand→Value} {o:Oper} {S T E:TypeId} {v:Value} {e:Er} (O:Own c G F) (h:RE S T c v e)
  (h0:v= .nilIface→(execOp ρ o).run P c.w= .ok (.value (.slice (some ⟨c.w.heap.size,0,none⟩) 1 1)) (c.w.alloc (.cells #[v] E)))
  (h1:∀t a,v= .iface t (.pointer a)→(execOp ρ o).run P c.w= .ok (.value (.slice (some ⟨c.w.heap.size,0,none⟩) 1 1)) (c.w.alloc (.cells #[v] E))):
  ∃v' c',(execOp ρ o).run P c.w= .ok (.value v') c'.w∧c.le c'∧∃vs,Own c' G (es true (RER S T) v' E vs [e] :: F)∧OA (RER S T) c' v' vs [e]:=by
 refine Own.sl (R:=RER S T) (ls:=[[v]]) (vs:=[v]) (xs:=[e]) true O (aZ _) rfl ⟨⟨v,rfl,h⟩,trivial⟩ (by rfl) ?_;rcases h.cs3 with hv | ⟨t,a,hv⟩
 ·exact h0 hv
 ·exact h1 t a hv
end Go.Lt
namespace Go.Proofs.YtclmdpamofdoiaaGreatDoor
open Go Go.Lt
set_option maxRecDepth 10000
set_option linter.unusedVariables false
attribute [local irreducible] W WL AC
open Tryz
variable {c0:Cx} {G:Gm} {F:List En} {sg:Sto} {v1 v2 v3 v4 v5 v6 v7 v8 v9 v10 v11 v12 v13 v14 v15 v16 v17 v18 v19 v20 v21 v22 v23 v24 v25 v26 v27 v28 v29 v30 v31 v32 v33 v34 v35 v36 v37 v38 v39 v40 v41 v42 v43 v44 v45 v46 v47 v48 v49 v50 v51 v52 v53 v54 v55 v56 v57 v58 v59 v60:Value}
def dJ (p0:Int):Option (Bool):=
 (bD (decide (p0≥0)) (some (decide (p0 < 55296)))).bind fun b=>
 (orE b ((bD (decide (p0 > 57343)) (some (decide (p0≤1114111)))).bind fun a=>
 some a)).bind fun c=>
 some c
theorem ki (e:Own c0 G F) (a:Int) {r:Bool} (H:dJ a=some r): Calls prog 110 #[J a] c0.w (aP c0 fun c v=>Own c G (F)∧v=B r):=by
 unfold dJ at H;refine en func110 rfl rfl (sr (va (B false) (wln (W.seq (bn H fun z t H=>bn H fun s n H=>W.join (Jn c0 fun c l=>Own c G (F)∧l= [(2,B s)]) ?_ ?_)))))
 ·clear H;refine W.region (va (J a) (va (B (decide (a≥0))) ?_));rcases bo (decide (a≥0)) with f | f
  ·have x:=anT f t;refine vb f (wa (J a) (wa (B (decide (a < 55296))) ?_));obtain rfl:=si x;refine va (B (decide (a < 55296))) ?_;rcases bo (decide (a < 55296)) with g | g
   ·obtain rfl:=orT g n;exact vb g (pz (pz (pz (vv (B true) (wln (jn c0 ⟨e,rfl⟩))))))
   have i:=orF g n;refine vb g (wa (J a) (wa (B (decide (a > 57343))) (wn (bn i fun m u i=>?_))));rcases bo (decide (a > 57343)) with h | h
   ·have y:=anT h u;refine vb h (wa (J a) (wa (B (decide (a≤1114111))) (wn ?_)));obtain rfl:=si y;refine va (B (decide (a≤1114111))) ?_;obtain rfl:=si i;exact vv (B (decide (a≤1114111))) (wln (jn c0 ⟨e,rfl⟩))
   obtain rfl:=anF h u;refine vb h (pz (wa (B false) ?_));obtain rfl:=si i;exact vv (B false) (wln (jn c0 ⟨e,rfl⟩))
  obtain rfl:=anF f t;refine vb f (pz (va (B false) ?_));have j:false=false:=rfl;have d:=orF j n;refine vb j (wa (J a) (wa (B (decide (a > 57343))) (wn (bn d fun m k d=>?_))));rcases bo (decide (a > 57343)) with b | b
  ·have o:=anT b k;refine vb b (wa (J a) (wa (B (decide (a≤1114111))) (wn ?_)));obtain rfl:=si o;refine va (B (decide (a≤1114111))) ?_;obtain rfl:=si d;exact vv (B (decide (a≤1114111))) (wln (jn c0 ⟨e,rfl⟩))
  obtain rfl:=anF b k;refine vb b (pz (wa (B false) ?_));obtain rfl:=si d;exact vv (B false) (wln (jn c0 ⟨e,rfl⟩))
 rintro E M ⟨q,A,_,rfl,D,rfl,p,rfl⟩;refine nrm (W.ret ?_);obtain rfl:=si H;exact r1 (qq q ⟨p,rfl⟩)
def dA (p0:Int):Option (Bool):=
 (bD (decide (p0≥0)) (some (decide (p0≤1114111)))).bind fun b=>
 (bD b ((orE (decide (p0 < 55296)) (some (decide (p0 > 57343)))).bind fun a=>
 some a)).bind fun c=>
 some c
theorem qc (g:Own c0 G F) (a:Int) {r:Bool} (H:dA a=some r): Calls prog 26 #[J a] c0.w (aP c0 fun c v=>Own c G (F)∧v=B r):=by
 unfold dA at H;refine en func26 rfl rfl (sr (va (B false) (wln (W.seq (bn H fun t n H=>bn H fun m i H=>W.join (Jn c0 fun c l=>Own c G (F)∧l= [(2,B m)]) ?_ ?_)))))
 ·clear H;refine W.region (va (J a) (va (B (decide (a≥0))) ?_));rcases bo (decide (a≥0)) with b | b
  ·have p:=anT b n;refine vb b (wa (J a) (wa (B (decide (a≤1114111))) ?_));obtain rfl:=si p;refine va (B (decide (a≤1114111))) ?_;rcases bo (decide (a≤1114111)) with d | d
   ·have f:=anT d i;refine vb d (wa (J a) (wa (B (decide (a < 55296))) (wn (bn f fun s o f=>?_))));rcases bo (decide (a < 55296)) with e | e
    ·obtain rfl:=orT e o;refine vb e (pz (wa (B true) ?_));obtain rfl:=si f;exact vv (B true) (wln (jn c0 ⟨g,rfl⟩))
    have q:=orF e o;refine vb e (wa (J a) (wa (B (decide (a > 57343))) (wn ?_)));obtain rfl:=si q;refine va (B (decide (a > 57343))) ?_;obtain rfl:=si f;exact vv (B (decide (a > 57343))) (wln (jn c0 ⟨g,rfl⟩))
   obtain rfl:=anF d i;exact vb d (pz (pz (pz (vv (B false) (wln (jn c0 ⟨g,rfl⟩))))))
  obtain rfl:=anF b n;refine vb b (pz (va (B false) ?_));have h:false=false:=rfl;obtain rfl:=anF h i;exact vb h (pz (pz (pz (vv (B false) (wln (jn c0 ⟨g,rfl⟩))))))
 rintro y z ⟨k,u,_,rfl,x,rfl,j,rfl⟩;refine nrm (W.ret ?_);obtain rfl:=si H;exact r1 (qq k ⟨j,rfl⟩)
def fV (p0:List Int) (p1:List Int):Option (Bool):=
 if ((p0.length:Int) != (p1.length:Int))=true then
 some false
 else
 (cv (σ:=Int) (τ:=Bool ⊕ Unit) (((p0.length:Int) - 0).toNat+1) (fun b=>
 if (decide (b < (p0.length:Int)))=true then
 (idx p0 b).bind fun c=>
 (idx p1 b).bind fun d=>
 if (c != d)=true then
 some (.inr (.inl false))
 else
 some (.inl ((w64 (b+1))))
 else
 some (.inr (.inr ()))) (0)).bind fun a=>
 match a with
 | .inl a=>
 some a
 | .inr a=>
 some true
theorem qE (A:Own c0 G F) (h:List Int) (u:List Int) {r:Bool} (g:Sl (RI .i32) c0 v1 h) (s:Sl (RI .i32) c0 v3 u) (H:fV h u=some r): Calls prog 19 #[v1,v3] c0.w (aP c0 fun c v=>Own c G (F)∧v=B r):=by
 unfold fV at H;refine en func19 rfl rfl (sr (va (B false) (wln (W.seq (sr (va (v1) (vx (ln 3 cy g) (va (v3) (vx (ln 3 cy s) (va (B ((h.length:Int) != (u.length:Int))) (wln (cn H (fun h5 H=>?_) (fun h5 H=>?_)))))))))))))
 ·refine sr (va (B false) (wln (W.ret (thr ?_))));obtain rfl:=si H;exact r1 (qq c0 ⟨A,rfl⟩)
 refine W.skip (nrm (W.seq (sr (va (I 0) (wln (W.block (bn H fun b h6 p=>lp h6 (fun a=>Jn c0 fun c l=>Own c G (F)∧l= [(0,v1),(1,v3),(5,I a)]) (fun t=>match t with | .inl x=>(fun f0 ex e w=>ex= .ret∧(Jn c0 fun c l=>Own c G (F)∧l= [(4,B f0)]) e w) x | .inr x=>(fun i0 ex e w=>ex= .exit 0∧(Jn c0 fun c l=>Own c G (F)∧l= []) e w) x) ?_ ?_ ?_)))))))
 ·clear p h6;intro a v0 R h0 H;revert R h0;rintro P w_ ⟨c8,g9,_,rfl,l8,rfl,i,rfl⟩;refine W.seq (sr (va (I a) (va (v1) (vx (ln 3 cy g.m) (va (B (decide (a < (h.length:Int)))) (wln (cn H (fun T H=>?_) (fun T H=>?_))))))))
  ·refine W.skip (nrm (W.seq (W.block (W.seq (rD [] (Kp G0 []) i ?_)))));intro d o j;have u0:Kp G0 [] d:=Kp.nil0;refine ta 0 (v1) (ta 1 (I a) (bn H fun y k H=>?_));obtain ⟨l0,U,d0⟩:=Sl.at (g.mono (l8.trans o)) (aR k);obtain rfl:=U;refine tx 2 (fun q f=>ix cy g.m k) (tx 3 (fun q f=>l1 mh ((mm d0) 0 _ rfl)) (ta 4 (v3) (ta 5 (I a) (bn H fun z n H=>?_))));obtain ⟨m0,X,e0⟩:=Sl.at (s.mono (l8.trans o)) (aR n);obtain rfl:=X;refine tx 6 (fun q f=>ix cy s.m n) (tx 7 (fun q f=>l1 mh ((mm e0) 0 _ rfl)) (ta 8 (B (y != z)) (dn (nrm (cn H (fun Z H=>?_) (fun Z H=>?_))))))
   ·refine sr (va (B false) (wln (W.ret (bkr (thr ?_)))));obtain rfl:=si H;exact ⟨_,rfl,⟨rfl,jn d ⟨j,rfl⟩⟩⟩
   refine W.skip (bkn (nrm (W.region (va (I a) (vv (I (w64 (a+1))) (WL.nil ?_))))));obtain rfl:=si H;exact ⟨_,rfl,jn d ⟨j,rfl⟩⟩
  refine W.exit (thx ?_);obtain rfl:=si H;exact ⟨_,rfl,rfl,jn c8 ⟨i,rfl⟩⟩
 ·exact jn c0 ⟨A,rfl⟩
 rcases b with b | b
 ·intro S; revert S;rintro _ P w_ ⟨rfl,M,o0,_,rfl,s0,rfl,D,rfl⟩;refine bkr (thr ?_);obtain rfl:=si p;exact r1 (qq M ⟨D,rfl⟩)
 rintro _ P w_ ⟨rfl,N,q0,_,rfl,t0,rfl,E,rfl⟩;refine bke (nrm (sr (va (B true) (wln (W.ret ?_)))));obtain rfl:=si p;exact r1 (qq N ⟨E,rfl⟩)
def ej (p0:aa):Option (Bool):=
 (orE (p0.Kind==0) (some (p0.Kind==3))).bind fun h=>
 if h=true then
 some ((p0.Text.length:Int)==0)
 else
 (bD (p0.Kind != 1) (some (p0.Kind != 2))).bind fun c=>
 (orE c (some (decide ((p0.Text.length:Int) < 1)))).bind fun d=>
 (orE d (some (decide ((p0.Text.length:Int) > 16)))).bind fun e=>
 if e=true then
 some false
 else
 (cv (σ:=Int) (τ:=Bool ⊕ Unit) (((p0.Text.length:Int) - 0).toNat+1) (fun b=>
 if (decide (b < (p0.Text.length:Int)))=true then
 (idx p0.Text b).bind fun f=>
 (dA f).bind fun g=>
 if (!g)=true then
 some (.inr (.inl false))
 else
 some (.inl ((w64 (b+1))))
 else
 some (.inr (.inr ()))) (0)).bind fun a=>
 match a with
 | .inl a=>
 some a
 | .inr a=>
 some true
theorem pI (O0:Own c0 G F) (a:aa) {r:Bool} (i:Sl (RI .i32) c0 v1 a.Text) (H:ej a=some r): Calls prog 209 #[.agg #[I a.Kind,v1]] c0.w (aP c0 fun c v=>Own c G (F)∧v=B r):=by
 unfold ej at H;refine en func209 rfl rfl (sr ?_);obtain ⟨a3,a4,a5,rfl⟩:=(i).form;refine me (bx 114 [I a.Kind,.slice a3 a4 a5] O0) ?_;rintro v10 Z l9 ⟨d,rfl,O7,g⟩;refine va (B false) (wln (W.seq (W.seq (bn H fun u0 P H=>W.join (Jn Z fun c l=>Own c G (F)∧l= [(1,Q d),(11,B u0)]) ?_ ?_))))
 ·clear H;refine W.region (va (Q d) (vx (l1 u_3 (g 0 _ rfl)) (va (B (a.Kind==0)) ?_)));rcases bo (a.Kind==0) with k | k
  ·obtain rfl:=orT k P;exact vb k (pz (ps (va (B true) (wln (jn Z ⟨O7,rfl⟩)))))
  have f0:=orF k P;refine vb k (wa (Q d) (wn (vx (l1 u_3 (g 0 _ rfl)) (wa (B (a.Kind==3)) ?_))));obtain rfl:=si f0;exact va (B (a.Kind==3)) (wln (jn Z ⟨O7,rfl⟩))
 rintro z A ⟨f,w1,_,rfl,d1,rfl,h,rfl⟩;refine nrm (cn H (fun x0 H=>?_) (fun x0 H=>?_))
 ·refine sr (va (Qo d (0+1)) (vx (l1 cy ((mm g) 1 _ rfl)) (vx (ln 3 cy i.m) (vv (B ((a.Text.length:Int)==0)) (wln (W.ret (thr ?_)))))));obtain rfl:=si H;exact r1 (qq f ⟨h,rfl⟩)
 refine W.skip (nrm (W.seq (W.seq (bn H fun q1 R H=>bn H fun s1 y H=>bn H fun a0 n H=>W.join (Jn f fun c l=>Own c G (F)∧l= [(1,Q d),(35,B a0)]) ?_ ?_))))
 ·clear H;refine W.region (va (Q d) (vx (l1 u_3 ((mm g) 0 _ rfl)) (va (B (a.Kind != 1)) ?_)));rcases bo (a.Kind != 1) with o | o
  ·have g0:=anT o R;refine vb o (wa (Q d) (wn (vx (l1 u_3 ((mm g) 0 _ rfl)) (wa (B (a.Kind != 2)) ?_))));obtain rfl:=si g0;refine va (B (a.Kind != 2)) ?_;rcases bo (a.Kind != 2) with p | p
   ·obtain rfl:=orT p y;refine vb p (pz (pz (va (B true) ?_)));have S:true=true:=rfl;obtain rfl:=orT S n;exact vb S (pz (pz (va (B true) (wln (jn f ⟨h,rfl⟩)))))
   have h0:=orF p y;refine vb p (wa (Qo d (0+1)) (wn (vx (l1 cy ((mm g) 1 _ rfl)) (wn (vx (ln 3 cy i.m) (wa (B (decide ((a.Text.length:Int) < 1))) ?_))))));obtain rfl:=si h0;refine va (B (decide ((a.Text.length:Int) < 1))) ?_;rcases bo (decide ((a.Text.length:Int) < 1)) with q | q
   ·obtain rfl:=orT q n;exact vb q (pz (pz (va (B true) (wln (jn f ⟨h,rfl⟩)))))
   have i0:=orF q n;refine vb q (wa (Qo d (0+1)) (wn (vx (l1 cy ((mm g) 1 _ rfl)) (wn (vx (ln 3 cy i.m) (wa (B (decide ((a.Text.length:Int) > 16))) ?_))))));obtain rfl:=si i0;exact va (B (decide ((a.Text.length:Int) > 16))) (wln (jn f ⟨h,rfl⟩))
  obtain rfl:=anF o R;refine vb o (pz (ps (va (B false) ?_)));have T:false=false:=rfl;have j0:=orF T y;refine vb T (wa (Qo d (0+1)) (wn (vx (l1 cy ((mm g) 1 _ rfl)) (wn (vx (ln 3 cy i.m) (wa (B (decide ((a.Text.length:Int) < 1))) ?_))))));obtain rfl:=si j0;refine va (B (decide ((a.Text.length:Int) < 1))) ?_;rcases bo (decide ((a.Text.length:Int) < 1)) with s | s
  ·obtain rfl:=orT s n;exact vb s (pz (pz (va (B true) (wln (jn f ⟨h,rfl⟩)))))
  have k0:=orF s n;refine vb s (wa (Qo d (0+1)) (wn (vx (l1 cy ((mm g) 1 _ rfl)) (wn (vx (ln 3 cy i.m) (wa (B (decide ((a.Text.length:Int) > 16))) ?_))))));obtain rfl:=si k0;exact va (B (decide ((a.Text.length:Int) > 16))) (wln (jn f ⟨h,rfl⟩))
 rintro z A ⟨j,x1,_,rfl,e1,rfl,D,rfl⟩;refine nrm (cn H (fun y0 H=>?_) (fun y0 H=>?_))
 ·refine sr (va (B false) (wln (W.ret (thr ?_))));obtain rfl:=si H;exact r1 (qq j ⟨D,rfl⟩)
 refine W.skip (nrm (W.seq (sr (va (I 0) (wln (W.block (bn H fun u U x=>lp U (fun b=>Jn j fun c l=>Own c G (F)∧l= [(1,Q d),(3,I b)]) (fun t=>match t with | .inl x_=>(fun h1 ex e w=>ex= .ret∧(Jn j fun c l=>Own c G (F)∧l= [(2,B h1)]) e w) x_ | .inr x_=>(fun j1 ex e w=>ex= .exit 0∧(Jn j fun c l=>Own c G (F)∧l= []) e w) x_) ?_ ?_ ?_)))))))
 ·clear x U;intro b g2 v0 i1 H;revert v0 i1;rintro z A ⟨q0,y1,_,rfl,f1,rfl,E,rfl⟩;refine W.seq (sr (va (I b) (va (Qo d (0+1)) (vx (l1 cy ((mm g) 1 _ rfl)) (vx (ln 3 cy i.m) (va (B (decide (b < (a.Text.length:Int)))) (wln (cn H (fun z0 H=>?_) (fun z0 H=>?_)))))))))
  ·refine W.skip (nrm (W.seq (W.block (sr (va (Qo d (0+1)) (vx (l1 cy ((mm g) 1 _ rfl)) (va (I b) (bn H fun d0 X H=>?_))))))));obtain ⟨u1,a1,g1⟩:=Sl.at (i.mono (l9.trans (d1.trans (e1.trans f1)))) (aR X);obtain rfl:=a1;refine vx (ix cy i.m X) (vx (l1 mh (g1 0 _ rfl)) (bn H fun e0 b1 H=>cl (qc E d0 b1) ?_));rintro f2 N c2 ⟨M,rfl⟩;refine va (B (!e0)) (wln (cn H (fun c1 H=>?_) (fun c1 H=>?_)))
   ·refine sr (va (B false) (wln (W.ret (bkr (thr ?_)))));obtain rfl:=si H;exact ⟨_,rfl,⟨rfl,jn N ⟨M,rfl⟩⟩⟩
   refine W.skip (bkn (nrm (W.region (va (I b) (vv (I (w64 (b+1))) (WL.nil ?_))))));obtain rfl:=si H;exact ⟨_,rfl,jn N ⟨M,rfl⟩⟩
  refine W.exit (thx ?_);obtain rfl:=si H;exact ⟨_,rfl,rfl,jn q0 ⟨E,rfl⟩⟩
 ·exact jn j ⟨D,rfl⟩
 rcases u with u | u
 ·intro w0; revert w0;rintro _ z A ⟨rfl,s0,z1,_,rfl,d2,rfl,l0,rfl⟩;refine bkr (thr ?_);obtain rfl:=si x;exact r1 (qq s0 ⟨l0,rfl⟩)
 rintro _ z A ⟨rfl,t0,b2,_,rfl,e2,rfl,o0,rfl⟩;refine bke (nrm (sr (va (B true) (wln (W.ret ?_)))));obtain rfl:=si x;exact r1 (qq t0 ⟨o0,rfl⟩)
def dk (p0:List aa) (p1:Int):Option (Int):=
 (orE (decide (p1 < 0)) (some (decide (p1≥(p0.length:Int))))).bind fun b=>
 if b=true then
 some 0
 else
 (idx p0 p1).bind fun a=>
 some a.Kind
theorem km (h:Own c0 G F) (d:List aa) (a:Int) {r:Int} (f:Sl aw c0 v1 d) (H:dk d a=some r): Calls prog 210 #[v1,I a] c0.w (aP c0 fun c v=>Own c G (F)∧v=I r):=by
 unfold dk at H;refine en func210 rfl rfl (sr (va (I 0) (wln (W.seq (W.seq (bn H fun k p H=>W.join (Jn c0 fun c l=>Own c G (F)∧l= [(0,v1),(1,I a),(12,B k)]) ?_ ?_))))))
 ·clear H;refine W.region (va (I a) (va (B (decide (a < 0))) ?_));rcases bo (decide (a < 0)) with b | b
  ·obtain rfl:=orT b p;exact vb b (pz (pz (va (B true) (wln (jn c0 ⟨h,rfl⟩)))))
  have s:=orF b p;refine vb b (wa (I a) (wa (v1) (wn (vx (ln 3 cI f) (wa (B (decide (a≥(d.length:Int)))) ?_)))));obtain rfl:=si s;exact va (B (decide (a≥(d.length:Int)))) (wln (jn c0 ⟨h,rfl⟩))
 rintro y A ⟨j,z,_,rfl,t,rfl,i,rfl⟩;refine nrm (cn H (fun n H=>?_) (fun n H=>?_))
 ·refine sr (va (I 0) (wln (W.ret (thr ?_))));obtain rfl:=si H;exact r1 (qq j ⟨i,rfl⟩)
 refine W.skip (nrm (sr (va (v1) (va (I a) (bn H fun g e H=>?_)))));obtain ⟨u,o,q⟩:=Sl.at (f.mono t) (aR e);obtain ⟨v17,rfl,x⟩:=o;refine vx (ix cI f.m e) (va (Qo (sb v1) (so v1+a.toNat * 2)) (vx (l1 u_3 (q 0 _ rfl)) (va (I g.Kind) (wln (W.ret ?_)))));obtain rfl:=si H;exact r1 (qq j ⟨i,rfl⟩)
def fm (p0:List aa):Option (Bool):=
 (cv (σ:=Int) (τ:=Bool ⊕ Unit) (((p0.length:Int) - 0).toNat+1) (fun a=>
 if (decide (a < (p0.length:Int)))=true then
 (idx p0 a).bind fun g=>
 (ej g).bind fun h=>
 (orE (!h) ((idx p0 a).bind fun i=>
 (bD (i.Kind==2) ((dk p0 (w64 (a+1))).bind fun j=>
 some (j != 3))).bind fun d=>
 some d)).bind fun c=>
 (orE c ((idx p0 a).bind fun k=>
 (bD (k.Kind==3) ((dk p0 (w64 (a - 1))).bind fun l=>
 some (l != 2))).bind fun f=>
 some f)).bind fun e=>
 if e=true then
 some (.inr (.inl false))
 else
 some (.inl ((w64 (a+1))))
 else
 some (.inr (.inr ()))) (0)).bind fun b=>
 match b with
 | .inl b=>
 some b
 | .inr b=>
 some true
theorem pH (O0:Own c0 G F) (x:List aa) {r:Bool} (d:Sl aw c0 v1 x) (H:fm x=some r): Calls prog 147 #[v1] c0.w (aP c0 fun c v=>Own c G (F)∧v=B r):=by
 unfold fm at H;refine en func147 rfl rfl (sr (va (B false) (wln (W.seq (sr (va (I 0) (wln (W.block (bn H fun M h3 H4=>lp h3 (fun a=>Jn c0 fun c l=>Own c G (F)∧l= [(0,v1),(3,I a)]) (fun t=>match t with | .inl x_=>(fun c2 ex e w=>ex= .ret∧(Jn c0 fun c l=>Own c G (F)∧l= [(2,B c2)]) e w) x_ | .inr x_=>(fun m2 ex e w=>ex= .exit 0∧(Jn c0 fun c l=>Own c G (F)∧l= []) e w) x_) ?_ ?_ ?_)))))))))
 ·clear H4 h3;intro a c3 e1 d2 H;revert e1 d2;rintro e_ w_ ⟨c5,g6,_,rfl,R,rfl,O7,rfl⟩;refine W.seq (sr (va (I a) (va (v1) (vx (ln 3 cI d.m) (va (B (decide (a < (x.length:Int)))) (wln (cn H (fun g1 H=>?_) (fun g1 H=>?_))))))))
  ·refine W.skip (nrm (W.seq (W.block (W.seq (bn H fun t0 Z H=>bn H fun N h1 H=>bn H fun f2 a0 H=>bn H fun l0 u H=>W.join (Jn c5 fun c l=>Own c G (F)∧l= [(0,v1),(3,I a),(45,B l0)]) ?_ ?_)))))
   ·clear H;refine W.region (va (v1) (va (I a) ?_));obtain ⟨i2,i1,x1⟩:=Sl.at (d.mono R) (aR Z);obtain ⟨v19,rfl,j1⟩:=i1;refine vx (ix cI d.m Z) (vx (lN 114 x1) (cl (pI O7 t0 j1 h1) ?_));rintro v26 T E ⟨s,rfl⟩;refine va (B (!N)) ?_;rcases bo (!N) with k | k
    ·obtain rfl:=orT k a0;refine vb k (pz (pz (pz (pz (pz (pz (ps (va (B true) ?_))))))));have b0:true=true:=rfl;obtain rfl:=orT b0 u;exact vb b0 (pz (pz (pz (pz (pz (pz (ps (va (B true) (wln (jn T ⟨s,rfl⟩))))))))))
    have g:=orF k a0;refine vb k (wa (v1) (wa (I a) (wn (bn g fun P d0 g=>?_))));obtain ⟨j2,m1,y1⟩:=Sl.at (d.mono (R.trans E)) (aR d0);obtain ⟨v34,rfl,q2⟩:=m1;refine vx (ix cI d.m d0) (wa (Qo (sb v1) (so v1+a.toNat * 2)) (wn (vx (l1 u_3 (y1 0 _ rfl)) (wa (B (P.Kind==2)) (wn (bn g fun g2 e0 g=>?_))))));rcases bo (P.Kind==2) with n | n
    ·have y:=anT n e0;refine vb n (wa (v1) (wa (I a) (wa (I (w64 (a+1))) (wn (bn y fun j n1 y=>cl (km s x (w64 (a+1)) d.m n1) ?_)))));rintro v45 U w1 ⟨D,rfl⟩;refine wa (B (j != 3)) (wn ?_);obtain rfl:=si y;refine va (B (j != 3)) ?_;obtain rfl:=si g;refine va (B (j != 3)) ?_;rcases bo (j != 3) with o | o
     ·obtain rfl:=orT o u;exact vb o (pz (pz (pz (pz (pz (pz (ps (va (B true) (wln (jn U ⟨D,rfl⟩))))))))))
     have h:=orF o u;refine vb o (wa (v1) (wa (I a) (wn (bn h fun f f0 h=>?_))));obtain ⟨k2,p1,z1⟩:=Sl.at (d.mono (R.trans (E.trans w1))) (aR f0);obtain ⟨v52,rfl,s2⟩:=p1;refine vx (ix cI d.m f0) (wa (Qo (sb v1) (so v1+a.toNat * 2)) (wn (vx (l1 u_3 (z1 0 _ rfl)) (wa (B (f.Kind==3)) (wn (bn h fun m0 g0 h=>?_))))));rcases bo (f.Kind==3) with p | p
     ·have z:=anT p g0;refine vb p (wa (v1) (wa (I a) (wa (I (w64 (a - 1))) (wn (bn z fun b q1 z=>cl (km D x (w64 (a - 1)) d.m q1) ?_)))));rintro z2 a1 u2 ⟨u0,rfl⟩;refine wa (B (b != 2)) (wn ?_);obtain rfl:=si z;refine va (B (b != 2)) ?_;obtain rfl:=si h;exact va (B (b != 2)) (wln (jn a1 ⟨u0,rfl⟩))
     obtain rfl:=anF p g0;refine vb p (pz (pz (ps (wa (B false) ?_))));obtain rfl:=si h;exact va (B false) (wln (jn U ⟨D,rfl⟩))
    obtain rfl:=anF n e0;refine vb n (pz (pz (ps (wa (B false) ?_))));obtain rfl:=si g;refine va (B false) ?_;have h0:false=false:=rfl;have i:=orF h0 u;refine vb h0 (wa (v1) (wa (I a) (wn (bn i fun f i0 i=>?_))));obtain ⟨l2,s1,b2⟩:=Sl.at (d.mono (R.trans E)) (aR i0);obtain ⟨a3,rfl,t2⟩:=s1;refine vx (ix cI d.m i0) (wa (Qo (sb v1) (so v1+a.toNat * 2)) (wn (vx (l1 u_3 (b2 0 _ rfl)) (wa (B (f.Kind==3)) (wn (bn i fun m0 j0 i=>?_))))));rcases bo (f.Kind==3) with q | q
    ·have A:=anT q j0;refine vb q (wa (v1) (wa (I a) (wa (I (w64 (a - 1))) (wn (bn A fun b t1 A=>cl (km s x (w64 (a - 1)) d.m t1) ?_)))));rintro b3 b1 v2 ⟨w0,rfl⟩;refine wa (B (b != 2)) (wn ?_);obtain rfl:=si A;refine va (B (b != 2)) ?_;obtain rfl:=si i;exact va (B (b != 2)) (wln (jn b1 ⟨w0,rfl⟩))
    obtain rfl:=anF q j0;refine vb q (pz (pz (ps (wa (B false) ?_))));obtain rfl:=si i;exact va (B false) (wln (jn T ⟨s,rfl⟩))
   rintro e_ w_ ⟨X,n2,_,rfl,w2,rfl,S,rfl⟩;refine nrm (cn H (fun u1 H=>?_) (fun u1 H=>?_))
   ·refine sr (va (B false) (wln (W.ret (bkr (thr ?_)))));obtain rfl:=si H;exact ⟨_,rfl,⟨rfl,jn X ⟨S,rfl⟩⟩⟩
   refine W.skip (bkn (nrm (W.region (va (I a) (vv (I (w64 (a+1))) (WL.nil ?_))))));obtain rfl:=si H;exact ⟨_,rfl,jn X ⟨S,rfl⟩⟩
  refine W.exit (thx ?_);obtain rfl:=si H;exact ⟨_,rfl,rfl,jn c5 ⟨O7,rfl⟩⟩
 ·exact jn c0 ⟨O0,rfl⟩
 rcases M with M | M
 ·intro f1; revert f1;rintro _ e_ w_ ⟨rfl,c1,o2,_,rfl,x2,rfl,x0,rfl⟩;refine bkr (thr ?_);obtain rfl:=si H4;exact r1 (qq c1 ⟨x0,rfl⟩)
 rintro _ e_ w_ ⟨rfl,d1,p2,_,rfl,y2,rfl,y0,rfl⟩;refine bke (nrm (sr (va (B true) (wln (W.ret ?_)))));obtain rfl:=si H4;exact r1 (qq d1 ⟨y0,rfl⟩)
def lu (p0:Int) (p1:List Int):Option (List aa):=
 (cv (σ:=(List Int)×Int) (τ:=(List Int)) (((p1.length:Int) - 0).toNat+1) (fun a=>
 (bD (decide (a.2 < (p1.length:Int))) (some (decide (a.2 < 16)))).bind fun c=>
 if c=true then
 ((idx p1 a.2).bind fun e=>
 (dA e).bind fun f=>
 if f=true then
 (idx p1 a.2).bind fun g=>
 (app a.1 ([g]:List Int)).bind fun h=>
 some (h)
 else
 (app a.1 ([65533]:List Int)).bind fun i=>
 some (i)).bind fun j=>
 some (.inl (j,(w64 (a.2+1))))
 else
 some (.inr (a.1))) (([]:List Int),0)).bind fun b=>
 (bD ((b.length:Int)==0) (some (decide (p0 > 1)))).bind fun d=>
 if d=true then
 some ([(⟨0,([]:List Int)⟩:aa),(⟨0,([]:List Int)⟩:aa)]:List aa)
 else
 if ((b.length:Int)==0)=true then
 some ([(⟨0,([]:List Int)⟩:aa)]:List aa)
 else
 if (decide (p0 > 1))=true then
 some ([(⟨2,b⟩:aa),(⟨3,([]:List Int)⟩:aa)]:List aa)
 else
 some ([(⟨1,b⟩:aa)]:List aa)
def fU (p0:List aa) (p1:List aa):Option (Bool):=
 if ((p0.length:Int) != (p1.length:Int))=true then
 some false
 else
 (cv (σ:=Int) (τ:=Bool ⊕ Unit) (((p0.length:Int) - 0).toNat+1) (fun a=>
 if (decide (a < (p0.length:Int)))=true then
 (idx p0 a).bind fun d=>
 (idx p1 a).bind fun e=>
 (orE (d.Kind != e.Kind) ((idx p0 a).bind fun f=>
 (idx p1 a).bind fun g=>
 (fV f.Text g.Text).bind fun h=>
 some (!h))).bind fun c=>
 if c=true then
 some (.inr (.inl false))
 else
 some (.inl ((w64 (a+1))))
 else
 some (.inr (.inr ()))) (0)).bind fun b=>
 match b with
 | .inl b=>
 some b
 | .inr b=>
 some true
theorem qA (O0:Own c0 G F) (s:List aa) (X:List aa) {r:Bool} (j:Sl aw c0 v1 s) (k:Sl aw c0 v3 X) (H:fU s X=some r): Calls prog 127 #[v1,v3] c0.w (aP c0 fun c v=>Own c G (F)∧v=B r):=by
 unfold fU at H;refine en func127 rfl rfl (sr (va (B false) (wln (W.seq (sr (va (v1) (vx (ln 3 cI j) (va (v3) (vx (ln 3 cI k) (va (B ((s.length:Int) != (X.length:Int))) (wln (cn H (fun h5 H=>?_) (fun h5 H=>?_)))))))))))))
 ·refine sr (va (B false) (wln (W.ret (thr ?_))));obtain rfl:=si H;exact r1 (qq c0 ⟨O0,rfl⟩)
 refine W.skip (nrm (W.seq (sr (va (I 0) (wln (W.block (bn H fun h h6 S=>lp h6 (fun a=>Jn c0 fun c l=>Own c G (F)∧l= [(0,v1),(1,v3),(5,I a)]) (fun t=>match t with | .inl x_=>(fun f1 ex e w=>ex= .ret∧(Jn c0 fun c l=>Own c G (F)∧l= [(4,B f1)]) e w) x_ | .inr x_=>(fun h1 ex e w=>ex= .exit 0∧(Jn c0 fun c l=>Own c G (F)∧l= []) e w) x_) ?_ ?_ ?_)))))))
 ·clear S h6;intro a d2 l0 g1 H;revert l0 g1;rintro U Z ⟨c8,g9,_,rfl,q,rfl,u,rfl⟩;refine W.seq (sr (va (I a) (va (v1) (vx (ln 3 cI j.m) (va (B (decide (a < (s.length:Int)))) (wln (cn H (fun o0 H=>?_) (fun o0 H=>?_))))))))
  ·refine W.skip (nrm (W.seq (W.block (W.seq (bn H fun n E H=>bn H fun o M H=>bn H fun T N H=>W.join (Jn c8 fun c l=>Own c G (F)∧l= [(0,v1),(1,v3),(5,I a),(41,B T)]) ?_ ?_)))))
   ·clear H;refine rD [] (Kp G0 []) u ?_;intro z i x;have c2:Kp G0 [] z:=Kp.nil0;refine ta 0 (v1) (ta 1 (I a) ?_);obtain ⟨j1,q0,a1⟩:=Sl.at (j.mono (q.trans i)) (aR E);obtain ⟨v24,rfl,u1⟩:=q0;refine tx 2 (fun f b=>ix cI j.m E) (ta 3 (Qo (sb v1) (so v1+a.toNat * 2)) (tx 4 (fun f b=>l1 u_3 ((mm a1) 0 _ rfl)) (ta 5 (v3) (ta 6 (I a) ?_))));obtain ⟨k1,s0,b1⟩:=Sl.at (k.mono (q.trans i)) (aR M);obtain ⟨v29,rfl,w1⟩:=s0;refine tx 7 (fun f b=>ix cI k.m M) (ta 8 (Qo (sb v3) (so v3+a.toNat * 2)) (tx 9 (fun f b=>l1 u_3 ((mm b1) 0 _ rfl)) (ta 10 (B (n.Kind != o.Kind)) ?_)));rcases bo (n.Kind != o.Kind) with g | g
    ·obtain rfl:=orT g N;exact AC.takeb 11 g rfl (by kernel_rfl) (by kernel_rfl) (fun f b=>(by kernel_rfl)) (tp 12 (tp 13 (tp 14 (tp 15 (tp 16 (tp 17 (tp 18 (tp 19 (tp 20 (tp 21 (tp 22 (tp 23 (ta 24 (B true) (dn (nrm (jn z ⟨x,rfl⟩))))))))))))))))
    have d:=orF g N;refine bn d fun b0 P d=>bn d fun d0 R d=>bn d fun p t0 d=>AC.takeb 11 g rfl (by kernel_rfl) (by kernel_rfl) (fun f b=>(by kernel_rfl)) (ta 12 (v1) (ta 13 (I a) ?_));obtain ⟨m1,u0,c1⟩:=Sl.at (j.mono (q.trans i)) (aR P);obtain ⟨v39,rfl,v0⟩:=u0;refine tx 14 (fun f b=>ix cI j.m P) (ta 15 (Qo (sb v1) (so v1+a.toNat * 2+1)) (tx 16 (fun f b=>l1 cy ((mm c1) 1 _ rfl)) (ta 17 (v3) (ta 18 (I a) ?_))));obtain ⟨n1,w0,d1⟩:=Sl.at (k.mono (q.trans i)) (aR R);obtain ⟨v44,rfl,x0⟩:=w0;refine tx 19 (fun f b=>ix cI k.m R) (ta 20 (Qo (sb v3) (so v3+a.toNat * 2+1)) (tx 21 (fun f b=>l1 cy ((mm d1) 1 _ rfl)) (o1 22 (gc 22 (qE x b0.Text d0.Text v0 x0 t0) ?_))));rintro v51 A x1 ⟨f0,rfl⟩;have e1:Kp G0 [] A:=Kp.nil0;refine ⟨.inr e1,ta 23 (B (!p)) ?_⟩;obtain rfl:=si d;exact ta 24 (B (!p)) (dn (nrm (jn A ⟨f0,rfl⟩)))
   rintro U Z ⟨D,q1,_,rfl,y1,rfl,y,rfl⟩;refine nrm (cn H (fun y0 H=>?_) (fun y0 H=>?_))
   ·refine sr (va (B false) (wln (W.ret (bkr (thr ?_)))));obtain rfl:=si H;exact ⟨_,rfl,⟨rfl,jn D ⟨y,rfl⟩⟩⟩
   refine W.skip (bkn (nrm (W.region (va (I a) (vv (I (w64 (a+1))) (WL.nil ?_))))));obtain rfl:=si H;exact ⟨_,rfl,jn D ⟨y,rfl⟩⟩
  refine W.exit (thx ?_);obtain rfl:=si H;exact ⟨_,rfl,rfl,jn c8 ⟨u,rfl⟩⟩
 ·exact jn c0 ⟨O0,rfl⟩
 rcases h with h | h
 ·intro m0; revert m0;rintro _ U Z ⟨rfl,i0,s1,_,rfl,z1,rfl,g0,rfl⟩;refine bkr (thr ?_);obtain rfl:=si S;exact r1 (qq i0 ⟨g0,rfl⟩)
 rintro _ U Z ⟨rfl,j0,t1,_,rfl,b2,rfl,h0,rfl⟩;refine bke (nrm (sr (va (B true) (wln (W.ret ?_)))));obtain rfl:=si S;exact r1 (qq j0 ⟨h0,rfl⟩)
def jj (p0:Int):Option (Bool):=
 (dJ p0).bind fun a=>
 some (!a)
theorem vI (d:Own c0 G F) (a:Int) {r:Bool} (H:jj a=some r): Calls prog 316 #[J a] c0.w (aP c0 fun c v=>Own c G (F)∧v=B r):=by
 unfold jj at H;refine en func316 rfl rfl (sr (va (B false) (wln (sr (va (J a) (bn H fun b g H=>cl (ki d a g) ?_))))));rintro v7 f h ⟨e,rfl⟩;refine vv (B (!b)) (wln (W.ret ?_));obtain rfl:=si H;exact r1 (qq f ⟨e,rfl⟩)
def cH (p0:List Int):Option (Int):=
 (cv (σ:=Int) (τ:=Int ⊕ Unit) (((p0.length:Int) - 0).toNat+1) (fun b=>
 if (decide (b < (p0.length:Int)))=true then
 (idx p0 b).bind fun c=>
 (jj c).bind fun d=>
 if d=true then
 some (.inr (.inl b))
 else
 some (.inl ((w64 (b+1))))
 else
 some (.inr (.inr ()))) (0)).bind fun a=>
 match a with
 | .inl a=>
 some a
 | .inr a=>
 some (-1)
theorem jv (U:Own c0 G F) (d:List Int) {r:Int} (j:Sl (RI .i32) c0 v1 d) (H:cH d=some r): Calls prog 214 #[v1,.func (.func 316) #[] #[]] c0.w (aP c0 fun c v=>Own c G (F)∧v=I r):=by
 unfold cH at H;refine en func214 rfl rfl (sr (va (I 0) (wln (W.seq (sr (va (v1) (vx (ln 3 cy j) (va (I 0) (wln (W.block (bn H fun b N i=>lp N (fun a=>Jn c0 fun c l=>Own c G (F)∧l= [(0,v1),(1,.func (.func 316) #[] #[]),(7,I (d.length:Int)),(8,I a)]) (fun t=>match t with | .inl k=>(fun R ex e w=>ex= .ret∧(Jn c0 fun c l=>Own c G (F)∧l= [(4,I R)]) e w) k | .inr k=>(fun b0 ex e w=>ex= .exit 0∧(Jn c0 fun c l=>Own c G (F)∧l= []) e w) k) ?_ ?_ ?_)))))))))))
 ·clear i N;intro a j0 y T H;revert y T;rintro x S ⟨X,g6,_,rfl,Z,rfl,q,rfl⟩;refine sr (va (B (decide (a < (d.length:Int)))) (wln (W.seq (cn H (fun A H=>?_) (fun A H=>?_)))))
  ·refine W.skip (nrm (W.seq (W.block (sr (vv (I a) (wln (sr (va (.func (.func 316) #[] #[]) (va (v1) (va (I a) (bn H fun n h H=>?_)))))))))));obtain ⟨a0,D,P⟩:=Sl.at (j.mono Z) (aR h);obtain rfl:=D;refine vx (ix cy j.m h) (vx (l1 mh (P 0 _ rfl)) (bn H fun d0 E H=>cl (vI q n E) ?_));rintro v22 g g0 ⟨f,rfl⟩;refine wln (cn H (fun M H=>?_) (fun M H=>?_))
   ·refine sr (vv (I a) (wln (W.ret (bkr (thr ?_)))));obtain rfl:=si H;exact ⟨_,rfl,⟨rfl,jn g ⟨f,rfl⟩⟩⟩
   refine W.skip (bkn (nrm (W.region (vv (I (w64 (a+1))) (WL.nil ?_)))));obtain rfl:=si H;exact ⟨_,rfl,jn g ⟨f,rfl⟩⟩
  refine W.exit (thx ?_);obtain rfl:=si H;exact ⟨_,rfl,rfl,jn X ⟨q,rfl⟩⟩
 ·exact jn c0 ⟨U,rfl⟩
 rcases b with b | b
 ·intro z; revert z;rintro _ x S ⟨rfl,s,e0,_,rfl,h0,rfl,o,rfl⟩;refine bkr (thr ?_);obtain rfl:=si i;exact r1 (qq s ⟨o,rfl⟩)
 rintro _ x S ⟨rfl,u,f0,_,rfl,i0,rfl,p,rfl⟩;refine bke (nrm (sr (va (I (-1)) (wln (W.ret ?_)))));obtain rfl:=si i;exact r1 (qq u ⟨p,rfl⟩)
def bS (p0:List Int):Option (Bool):=
 (cH p0).bind fun a=>
 some (decide (a≥0))
theorem iX (d:Own c0 G F) (b:List Int) {r:Bool} (g:Sl (RI .i32) c0 v1 b) (H:bS b=some r): Calls prog 152 #[v1,.func (.func 316) #[] #[]] c0.w (aP c0 fun c v=>Own c G (F)∧v=B r):=by
 unfold bS at H;refine en func152 rfl rfl (sr (va (B false) (wln (sr (va (v1) (va (.func (.func 316) #[] #[]) (bn H fun a h H=>cl (jv d b g h) ?_)))))));rintro v9 f i ⟨e,rfl⟩;refine vv (B (decide (a≥0))) (wln (W.ret ?_));obtain rfl:=si H;exact r1 (qq f ⟨e,rfl⟩)
def ju (p0:aa):Option (Bool):=
 (if (p0.Kind==0)=true then
 some (p0.Kind==0)
 else
 some (p0.Kind==3)).bind fun e=>
 if e=true then
 some ((p0.Text.length:Int)==0)
 else
 (if (p0.Kind==1)=true then
 some (p0.Kind==1)
 else
 some (p0.Kind==2)).bind fun d=>
 if d=true then
 (bD (decide ((p0.Text.length:Int) > 0)) (some (decide ((p0.Text.length:Int)≤16)))).bind fun a=>
 (bD a ((bS p0.Text).bind fun c=>
 some (!c))).bind fun b=>
 some b
 else
 some false
theorem sU (O0:Own c0 G F) (a:aa) {r:Bool} (s:Sl (RI .i32) c0 v1 a.Text) (H:ju a=some r): Calls prog 303 #[.agg #[I a.Kind,v1]] c0.w (aP c0 fun c v=>Own c G (F)∧v=B r):=by
 unfold ju at H;refine en func303 rfl rfl (sr ?_);obtain ⟨a3,a4,a5,rfl⟩:=(s).form;refine me (bx 114 [I a.Kind,.slice a3 a4 a5] O0) ?_;rintro v10 z l9 ⟨i,rfl,P,u⟩;refine va (B false) (wln (W.seq (sr (va (Q i) (vx (l1 u_3 (u 0 _ rfl)) (wln (W.block (bn H fun e0 d e=>W.seqJ (Jn z fun c l=>Own c G (F)∧l= [(1,Q i),(4,I a.Kind),(5,B e0)]) ?_ ?_))))))))
 ·refine sr (vv (B (a.Kind==0)) (wln (cn d (fun U d=>?_) (fun U d=>?_))))
  ·refine W.skip (nrm ?_);obtain rfl:=si d;exact jn z ⟨P,rfl⟩
  refine W.region (vv (B (a.Kind==3)) (wln ?_));obtain rfl:=si d;exact jn z ⟨P,rfl⟩
 rintro T w_ ⟨n,k0,_,rfl,o0,rfl,q,rfl⟩;refine cn e (fun X e=>?_) (fun X e=>?_)
 ·refine sr (va (Qo i (0+1)) (vx (l1 cy ((mm u) 1 _ rfl)) (vx (ln 3 cy s.m) (vv (B ((a.Text.length:Int)==0)) (wln (W.ret (bkr (thr ?_))))))));obtain rfl:=si e;exact r1 (qq n ⟨q,rfl⟩)
 refine bn e fun D f b=>W.seqJ (Jn n fun c l=>Own c G (F)∧l= [(1,Q i),(12,B D)]) ?_ ?_
 ·refine sr (vv (B (a.Kind==1)) (wln (cn f (fun Z f=>?_) (fun Z f=>?_))))
  ·refine W.skip (nrm ?_);obtain rfl:=si f;exact jn n ⟨q,rfl⟩
  refine W.region (vv (B (a.Kind==2)) (wln ?_));obtain rfl:=si f;exact jn n ⟨q,rfl⟩
 rintro T w_ ⟨o,l0,_,rfl,q0,rfl,k,rfl⟩;refine cn b (fun a0 b=>?_) (fun a0 b=>?_)
 ·refine W.seq (bn b fun j0 x b=>bn b fun A t b=>W.join (Jn o fun c l=>Own c G (F)∧l= [(2,B A)]) ?_ ?_)
  ·clear b;refine W.region (va (Qo i (0+1)) (vx (l1 cy ((mm u) 1 _ rfl)) (vx (ln 3 cy s.m) (va (B (decide ((a.Text.length:Int) > 0))) ?_))));rcases bo (decide ((a.Text.length:Int) > 0)) with g | g
   ·have E:=anT g x;refine vb g (wa (Qo i (0+1)) (wn (vx (l1 cy ((mm u) 1 _ rfl)) (wn (vx (ln 3 cy s.m) (wa (B (decide ((a.Text.length:Int)≤16))) ?_))))));obtain rfl:=si E;refine va (B (decide ((a.Text.length:Int)≤16))) ?_;rcases bo (decide ((a.Text.length:Int)≤16)) with h | h
    ·have p:=anT h t;refine vb h (wa (Qo i (0+1)) (wn (vx (l1 cy ((mm u) 1 _ rfl)) (wn (bn p fun j b0 p=>cl (iX k a.Text s.m b0) ?_)))));rintro v43 R s0 ⟨M,rfl⟩;refine wa (B (!j)) ?_;obtain rfl:=si p;exact vv (B (!j)) (wln (jn R ⟨M,rfl⟩))
    obtain rfl:=anF h t;exact vb h (pz (pz (vv (B false) (wln (jn o ⟨k,rfl⟩)))))
   obtain rfl:=anF g x;refine vb g (pz (pz (va (B false) ?_)));have y:false=false:=rfl;obtain rfl:=anF y t;exact vb y (pz (pz (vv (B false) (wln (jn o ⟨k,rfl⟩)))))
  rintro T w_ ⟨S,m0,_,rfl,t0,rfl,N,rfl⟩;refine nrm (W.ret (bkr (thr ?_)));obtain rfl:=si b;exact r1 (qq S ⟨N,rfl⟩)
 refine W.skip (bkn (nrm (sr (va (B false) (wln (W.ret ?_))))));obtain rfl:=si b;exact r1 (qq o ⟨k,rfl⟩)
def kD (p0:List aa):Option (Bool):=
 (cv (σ:=Bool×Int) (τ:=Bool ⊕ Bool) (((p0.length:Int) - 0).toNat+1) (fun b=>
 if (decide (b.2 < (p0.length:Int)))=true then
 (idx p0 b.2).bind fun c=>
 (ju c).bind fun e=>
 (orE (!e) (some (!(b.1==(c.Kind==3))))).bind fun d=>
 if d=true then
 some (.inr (.inl false))
 else
 some (.inl (c.Kind==2,(w64 (b.2+1))))
 else
 some (.inr (.inr (b.1)))) (false,0)).bind fun a=>
 match a with
 | .inl a=>
 some a
 | .inr a=>
 some (!a)
theorem sS (O0:Own c0 G F) (p:List aa) {r:Bool} (M:Sl aw c0 v1 p) (H:kD p=some r): Calls prog 281 #[v1] c0.w (aP c0 fun c v=>Own c G (F)∧v=B r):=by
 unfold kD at H;refine en func281 rfl rfl (sr (va (B false) (wln (sr (va (B false) (wln (W.seq (sr (va (v1) (vx (ln 3 cI M) (va (I 0) (wln (W.block (bn H fun d h3 A=>lp h3 (fun b=>Jn c0 fun c l=>Own c G (F)∧l= [(3,B b.1),(6,v1),(7,I (p.length:Int)),(8,I b.2)]) (fun t=>match t with | .inl R=>(fun s0 ex e w=>ex= .ret∧(Jn c0 fun c l=>Own c G (F)∧l= [(2,B s0)]) e w) R | .inr R=>(fun N ex e w=>ex= .exit 0∧(Jn c0 fun c l=>Own c G (F)∧l= [(3,B N)]) e w) R) ?_ ?_ ?_))))))))))))))
 ·clear A h3;intro b h1 g0 t0 H;revert g0 t0;rintro E P ⟨c5,g6,_,rfl,l5,rfl,O7,rfl⟩;refine sr (va (B (decide (b.2 < (p.length:Int)))) (wln (W.seq (cn H (fun i0 H=>?_) (fun i0 H=>?_)))))
  ·refine W.skip (nrm (W.seq (W.block (sr (bn H fun a y H=>?_)))));obtain ⟨x0,j0,q0⟩:=Sl.at (M.mono l5) (aR y);obtain ⟨v16,rfl,o⟩:=j0;refine vx (ix cI M.m y) (vx (lN 114 q0) (me (al 114 [I 0,Y] O7) ?_));rintro v21 y0 o0 ⟨g,rfl,T⟩;obtain ⟨j,k,n,rfl⟩:=((o.mono o0)).form;refine md (sA 114 [I a.Kind,.slice j k n] 0 T ⟨rfl,o.m.one,trivial⟩) ?_;rintro d0 c1 s;refine wln (W.seq (W.seq (bn H fun q k0 H=>bn H fun D z H=>W.join (Jn d0 fun c l=>Own c G ((Eb g 114 [I a.Kind,.slice j k n]) :: F)∧l= [(5,Q g),(6,v1),(7,I (p.length:Int)),(8,I b.2),(21,B D)]) ?_ ?_)))
   ·clear H;refine W.region (vx (leN 114 0 [I a.Kind,.slice j k n] (s.on 0 rfl)) (cl (sU s a o.m k0) ?_));rintro v34 u d1 ⟨h,rfl⟩;refine va (B (!q)) ?_;rcases bo (!q) with f | f
    ·obtain rfl:=orT f z;exact vb f (pz (pz (ps (va (B true) (wln (jn u ⟨h,rfl⟩))))))
    have S:=orF f z;refine vb f (wa (B b.1) (wa (Q g) (wn (vx (le1 0 u_3 (h.on 0 rfl)) (wa (B (a.Kind==3)) (wa (B (!(b.1==(a.Kind==3)))) ?_))))));obtain rfl:=si S;exact va (B (!(b.1==(a.Kind==3)))) (wln (jn u ⟨h,rfl⟩))
   rintro E P ⟨x,z0,_,rfl,e1,rfl,i,rfl⟩;refine nrm (cn H (fun m0 H=>?_) (fun m0 H=>?_))
   ·refine sr (va (B false) (wln (W.ret (thr (bkr (thr ?_))))));obtain rfl:=si H;refine ⟨_,rfl,⟨rfl,?_⟩⟩;have U:=i.sD 1 [];exact jn x ⟨U,rfl⟩
   refine W.skip (nrm (W.region (va (Q g) (vx (le1 0 u_3 (i.on 0 rfl)) (vv (B (a.Kind==2)) (WL.nil (bkn (nrm (W.region (vv (I (w64 (b.2+1))) (WL.nil ?_)))))))))));obtain rfl:=si H;refine ⟨_,rfl,?_⟩;have X:=i.sD 1 [];exact jn x ⟨X,rfl⟩
  refine W.exit (thx ?_);obtain rfl:=si H;exact ⟨_,rfl,rfl,jn c5 ⟨O7,rfl⟩⟩
 ·exact jn c0 ⟨O0,rfl⟩
 rcases d with d | d
 ·intro h0; revert h0;rintro _ E P ⟨rfl,e0,a1,_,rfl,f1,rfl,Z,rfl⟩;refine bkr (thr ?_);obtain rfl:=si A;exact r1 (qq e0 ⟨Z,rfl⟩)
 rintro _ E P ⟨rfl,f0,b1,_,rfl,g1,rfl,a0,rfl⟩;refine bke (nrm (sr (va (B d) (vv (B (!d)) (wln (W.ret ?_))))));obtain rfl:=si A;exact r1 (qq f0 ⟨a0,rfl⟩)
def er (p0:Int):Option (List aa):=
 (rep (bb 0 (aO p0 1024)) (⟨0,([]:List Int)⟩:aa)).bind fun a=>
 some a
theorem jM (f:Own c0 G F) (a:Int) {r:List aa} (H:er a=some r): Calls prog 187 #[I a] c0.w (aP c0 fun c v=>∃b e,Own c G (es true aw b 114 e r :: F)∧v=b∧OA aw c b e r):=by
 unfold er at H;refine en func187 rfl rfl (sr (va (Y) (wln (sr (va (I a) (va (I (aO a 1024)) (va (I (bb 0 (aO a 1024))) (bn H fun m d H=>me (Own.mkS (kl:= .i64) (kc:= .i64) (R:=aw) (z:= .agg #[I 0,Y]) (lz:=[I 0,Y]) (x:=(⟨0,([]:List Int)⟩:aa)) (by_:=32) (i:=(bb 0 (aO a 1024))) (j:=(bb 0 (aO a 1024))) true f (aZ _) d (A9 _) (zB d) cI (by kernel_rfl) rfl rfl (fun _=>⟨(Y),rfl,(Sl.nl _ _)⟩) (by kernel_rfl) (by kernel_rfl)) ?_))))))));rintro v6 h n ⟨l,g,k⟩;refine va (v6) (wln (W.ret ?_));obtain rfl:=si H;exact r1 (qq h ⟨v6,l,g,rfl,k⟩)
def ky (sg:Sto) (p0:Int):Option (Sto×(Option Nat)):=
 (er (bb 1 p0)).bind fun b=>
 (some (sg.add_row_Row (⟨b,false⟩:bp))).bind fun a=>
 some (a,(some sg.row_Row.length))
theorem tK (N:Own c0 G F) (R:Rel c0 sg G) (g:Int) {r:Sto×(Option Nat)} (H:ky sg g=some r): Calls prog 171 #[I g] c0.w (aP c0 fun c v=>∃M,∃G_:Gm,Own c G_ (F)∧Rel c r.1 G_∧eF G G_∧v=M∧Pt 0 c M r.2):=by
 unfold ky at H;refine en func171 rfl rfl (sr (va (.pointer none) (wln (sr (va (I g) (va (I (bb 1 g)) (bn H fun j S H=>cl (jM N (bb 1 g) S) ?_)))))));rintro v2 c9 T ⟨_,D,P,rfl,z⟩;obtain ⟨d,e,f,rfl⟩:=(z).form;refine va (.agg #[.slice d e f,B false]) (me (al 253 [.slice d e f,B false] P) ?_);rintro v17 U l16 ⟨a,rfl,l⟩;have m:=l.sD 2 [0,1];refine bn H fun A q H=>?_;obtain ⟨i,k,s,a0,t,n,h,X,u,o⟩:=Rel.new_row_Row (E:=[(Eb a 253 [.slice d e f,B false]),es true aw (.slice d e f) 114 D j]) (F:=F) (x:=(⟨j,false⟩:bp)) (b:=a) m (R.mono (T.trans l16)) (fun c_ hle_=>⟨a,(.slice d e f),D,rfl,rfl,((z.mono l16).mono hle_)⟩);rw [bi q] at h;refine WL.gh s.1 ?_;have Z:=eF.nil (eF.refl _) u;have p:=(eF.refl _).trans o;have y:Pt 0 i (Q a) (some sg.row_Row.length):=⟨a,rfl,t⟩;refine va (Q a) (wln (W.ret ?_));obtain rfl:=si H;exact r1 (qq i ⟨(Q a),k,n,h,p,rfl,y⟩)
def lC (p0:aa):Option (aa):=
 (fO p0.Text).bind fun a=>
 some (⟨p0.Kind,a⟩:aa)
theorem qS (E:Own c0 G F) (a:aa) {r:aa} (t:Sl (RI .i32) c0 v1 a.Text) (H:lC a=some r): Calls prog 195 #[.agg #[I a.Kind,v1]] c0.w (aP c0 fun c v=>∃i D,Own c G (es true (RI .i32) i 21 D r.Text :: F)∧v= .agg #[I r.Kind,i]∧OA (RI .i32) c i D r.Text):=by
 unfold lC at H;refine en func195 rfl rfl (sr ?_);obtain ⟨N,P,R,rfl⟩:=(t).form;refine me (bx 114 [I a.Kind,.slice N P R] E) ?_;rintro v10 c9 l9 ⟨o,rfl,M,x⟩;refine me (al 114 [I 0,Y] M) ?_;rintro v14 U X ⟨T,rfl,j⟩;refine wln (W.seq (rD [] (Kp G0 []) j ?_));intro p Z k;have d0:Kp G0 [] p:=Kp.nil0;refine ta 0 (Q o) (tx 1 (fun S u=>l1 u_3 ((mm x) 0 _ rfl)) (ta 2 (Qo o (0+1)) (tx 3 (fun S u=>l1 cy ((mm x) 1 _ rfl)) (bn H fun e0 s H=>o1 4 (gc 4 (vt k a.Text t.m s) ?_)))));rintro v19 q a0 ⟨_,A,l,rfl,g⟩;have y:Kp G0 [] q:=Kp.nil0;refine ⟨.inr y,?_⟩;obtain ⟨b,d,e,rfl⟩:=(g).form;refine ta 5 (.agg #[I a.Kind,.slice b d e]) (o1 6 (gD 6 (sA 114 [I a.Kind,.slice b d e] 1 l ⟨rfl,(g).one,trivial⟩) ?_));rintro f b0 h;have z:Kp G0 [] f:=Kp.nil0;refine ⟨.inr z,dn (nrm (W.ret ?_))⟩;obtain rfl:=si H;have n:=h.sD 2 [0];exact rF (c:=f) (vs:=[I a.Kind,.slice b d e]) rfl (by kernel_rfl) (by kernel_rfl) (by kernel_rfl) (h.on 1 rfl _ rfl).1 ⟨_,f,rfl,rfl,pt,(.slice b d e),A,n,rfl,g.m⟩
def qs (sg:Sto) (p0:List aa):Option (Sto×(Option Nat)×Er):=
 (orE ((p0.length:Int)==0) (some (decide ((p0.length:Int) > 1024)))).bind fun k=>
 if k=true then
 some (sg,(none:Option Nat),(Er.sent 2))
 else
 (kD p0).bind fun h=>
 if (!h)=true then
 some (sg,(none:Option Nat),(Er.sent 4))
 else
 (ky sg (p0.length:Int)).bind fun c=>
 (cv (σ:=Int×Sto) (τ:=Sto) (((p0.length:Int) - 0).toNat+1) (fun a=>
 if (decide (a.1 < (p0.length:Int)))=true then
 (idx p0 a.1).bind fun i=>
 (c.2).bind fun e=>
 (a.2.row_Row[e]?).bind fun b=>
 (lC i).bind fun j=>
 (idx b.cells a.1).bind fun l=>
 (nT b.cells a.1 j).bind fun g=>
 (a.2.set_row_Row e (⟨g,b.wrap⟩:bp)).bind fun d=>
 some (.inl ((w64 (a.1+1)),d))
 else
 some (.inr (a.2))) (0,c.1)).bind fun f=>
 some (f,c.2,Er.nil)
theorem DE (O0:Own c0 G F) (R0:Rel c0 sg G) (hG:Gl [2,4] c0) (d:List aa) {r:Sto×(Option Nat)×Er} (j:Sl aw c0 v1 d) (H:qs sg d=some r): Calls prog 237 #[v1] c0.w (aP c0 fun c v=>∃y1 y2,∃G_:Gm,Own c G_ (F)∧Rel c r.1 G_∧v= .tuple #[y1,y2]∧Pt 0 c y1 r.2.1∧RE 350 144 c y2 r.2.2):=by
 unfold qs at H;refine en func237 rfl rfl (sr (va (.pointer none) (va (.nilIface) (wln (W.seq (W.block (W.seq (bn H fun m2 h3 H=>W.join (Jn c0 fun c l=>Own c G (F)∧l= [(0,v1),(7,B m2)]) ?_ ?_))))))))
 ·clear H;refine W.region (va (v1) (vx (ln 3 cI j) (va (B ((d.length:Int)==0)) ?_)));rcases bo ((d.length:Int)==0) with M | M
  ·obtain rfl:=orT M h3;exact vb M (pz (ps (vv (B true) (wln (jn c0 ⟨O0,rfl⟩)))))
  have H5:=orF M h3;refine vb M (wa (v1) (wn (vx (ln 3 cI j) (wa (B (decide ((d.length:Int) > 1024))) ?_))));obtain rfl:=si H5;exact vv (B (decide ((d.length:Int) > 1024))) (wln (jn c0 ⟨O0,rfl⟩))
 rintro e_ w_ ⟨c6,g7,_,rfl,l6,rfl,O8,rfl⟩;refine nrm (cn H (fun p2 H=>?_) (fun p2 H=>?_))
 ·refine W.seq (rD [] (Kp G0 []) O8 ?_);intro g0 g3 w1;have j4:Kp G0 [] g0:=Kp.nil0;obtain ⟨v16,i0⟩:=(hG.mono (l6.trans g3)).get 2 (by decide);refine tx 0 (fun c' p=>l1 rS i0.m.im) (ta 1 (.pointer none) (ta 2 (v16) (dn (nrm (W.ret (bkr (thr ?_)))))));obtain rfl:=si H;exact r2 (qq g0 ⟨(.pointer none),v16,G,w1,R0.m,rfl,rfl,i0⟩)
 refine sr (va (v1) (bn H fun Z q2 H=>cl (sS O8 d j.m q2) ?_));rintro v24 e4 t0 ⟨e0,rfl⟩;refine vv (B (!Z)) (wln (cn H (fun s2 H=>?_) (fun s2 H=>?_)))
 ·refine W.seq (rD [] (Kp G0 []) e0 ?_);intro h0 i3 x1;have k4:Kp G0 [] h0:=Kp.nil0;obtain ⟨v29,j0⟩:=(hG.mono (l6.trans (t0.trans i3))).get 4 (by decide);refine tx 0 (fun c' p=>l1 rS j0.m.im) (ta 1 (.pointer none) (ta 2 (v29) (dn (nrm (W.ret (bkr (thr ?_)))))));obtain rfl:=si H;exact r2 (qq h0 ⟨(.pointer none),v29,G,x1,R0.m,rfl,rfl,j0⟩)
 refine W.skip (bkn (nrm (sr (va (v1) (vx (ln 3 cI j.m) (bn H fun b4 u2 H=>cl (tK e0 R0.m (d.length:Int) u2) ?_))))));rintro v32 E j3 ⟨_,t1,z1,g2,d4,rfl,k0⟩;refine va (v32) (wln (W.seq (sr (va (v1) (vx (ln 3 cI j.m) (va (I 0) (wln (W.block (bn H fun a4 l0 d0=>lp l0 (fun a=>Jn E fun c l=>∃G_,Own c G_ (F)∧l= [(4,v32),(25,v1),(26,I (d.length:Int)),(27,I a.1)]∧Rel c a.2 G_) (fun b0 ex e w=>ex= .exit 1∧(Jn E fun c l=>∃G_,Own c G_ (F)∧l= [(4,v32)]∧Rel c b0 G_) e w) ?_ ?_ ?_)))))))))
 ·clear d0 l0;intro a p4 o2 p3 H;revert o2 p3;rintro e_ w_ ⟨i2,i4,_,rfl,u0,rfl,i,f0,rfl,y⟩;refine sr (va (B (decide (a.1 < (d.length:Int)))) (wln (W.seq (cn H (fun v2 H=>?_) (fun v2 H=>?_)))))
  ·refine W.skip (nrm (W.seq (W.block (sr (va (I a.1) (bn H fun b m0 H=>?_))))));obtain ⟨z3,w2,l3⟩:=Sl.at (j.mono (l6.trans (t0.trans (j3.trans u0)))) (aR m0);obtain ⟨v53,rfl,N⟩:=w2;refine vx (ix cI j.m m0) (vx (lN 114 l3) (me (al 114 [I 0,Y] f0) ?_));rintro v58 f4 q ⟨n,rfl,b2⟩;refine va (I a.1) ?_;obtain ⟨f,g,h,rfl⟩:=((N.mono q)).form;refine md (sA 114 [I b.Kind,.slice f g h] 0 b2 ⟨rfl,N.m.one,trivial⟩) ?_;rintro g4 S c2;refine wln (rD [8] (Kp i [(Eb n 114 [I b.Kind,.slice f g h])]) c2 ?_);intro j2 U s;have w0:Kp i [(Eb n 114 [I b.Kind,.slice f g h])] j2:=(Kp.cons (s.on 0 rfl) (Kp.nil s));refine ta 0 (v32) (bn H fun x3 x2 H=>?_);obtain ⟨o,rfl,o0⟩:=((k0.mono (u0.trans (q.trans (S.trans U))))).get x2;refine ta 1 (Q o) (ta 2 (Q o) (bn H fun p1 z2 H=>?_));obtain ⟨X,l4,s0,q0⟩:=Rel.open_row_Row (y.mono (q.trans (S.trans U))) z2 o0;refine tkx 3 w0 (fun c' p hk=>le1 0 cI (hk.gon s0 0 rfl)) (ta 4 (I a.1) (tkx 5 w0 (fun c' p hk=>leN 114 0 [I b.Kind,.slice f g h] (hk.on 0 rfl)) (bn H fun k a3 H=>o1 6 (gc 6 (qS s b N.m a3) ?_))));rintro o4 k2 k3 ⟨n4,m4,t,rfl,b3⟩;have m3:Kp i [(Eb n 114 [I b.Kind,.slice f g h])] k2:=(Kp.cons (t.on 1 rfl) (Kp.nil t));refine ⟨.inr m3,bn H fun c4 c3 H=>tx 7 (fun c' p=>ixO cI q0.m c3) ?_⟩;obtain ⟨l2,d3,v0,x,P⟩:=t.frz 0 rfl b3;have n3:Kp i [(Eb n 114 [I b.Kind,.slice f g h])] l2:=(Kp.cons (x.on 1 rfl) (Kp.nil x));refine AC.gh d3 v0 (fun _=>n3) ?_;obtain ⟨z,A,D,rfl⟩:=(P).form;have e2:=x.borrow 1 s0 rfl;refine bn H fun q1 e3 H=>o1 8 (gD 8 (Own.stW (R:=aw) (T:=114) (us:=[I k.Kind,.slice z A D]) (x':=k) (u:= .agg #[I k.Kind,.slice z A D]) 0 e2 (by kernel_rfl) rfl q0.m e3 rfl (by kernel_rfl) ⟨rfl,P.one,trivial⟩ rfl ⟨(.slice z A D),rfl,P⟩) ?_);rintro h1 m1 ⟨x0,f2,f3⟩;have a1:=f2.giveB 1 rfl;refine bn H fun s1 j1 H=>?_;obtain ⟨y0,b1,f1,w3,u3⟩:=Rel.put_row_Row a1 (y.mono (q.trans (S.trans (U.trans (k3.trans (v0.trans m1)))))) (E':=[(Eb o 253 [X,B p1.wrap]),es true aw X 114 x0 q1]) j1 ⟨o,X,x0,(tm o0),rfl,f3⟩;refine ⟨.inl rfl,dn (bkn (nrm (W.region (vv (I (w64 (a.1+1))) (WL.nil ?_)))))⟩;obtain rfl:=si H;refine ⟨_,rfl,?_⟩;have c1:=b1.sD 2 [];exact jn h1 ⟨y0,c1,rfl,f1⟩
  refine W.exit (thx ?_);obtain rfl:=si H;exact ⟨_,rfl,rfl,jn i2 ⟨i,f0,rfl,y⟩⟩
 ·exact jn E ⟨t1,z1,rfl,g2⟩
 rintro _ e_ w_ ⟨rfl,i1,v3,_,rfl,y3,rfl,z0,d1,rfl,g1⟩;refine bke (nrm (sr (vv (v32) (va (.nilIface) (wln (W.ret ?_))))));obtain rfl:=si d0;exact r2 (qq i1 ⟨v32,.nilIface,z0,d1,g1,rfl,k0.m,rfl⟩)
def bM (sg:Sto) (p0:Option Nat):Option (Int):=
 if p0.isNone=true then
 some 0
 else
 (p0).bind fun b=>
 (sg.row_Row[b]?).bind fun a=>
 some (a.cells.length:Int)
theorem cF (d:Own c0 G F) (k:Rel c0 sg G) (f:Option Nat) {r:Int} (j:Pt 0 c0 v1 f) (H:bM sg f=some r): Calls prog 124 #[v1] c0.w (aP c0 fun c v=>Own c G (F)∧v=I r):=by
 unfold bM at H;refine en func124 rfl rfl (sr (va (I 0) (wln (W.seq (sr (va (v1) (vr (B f.isNone) (by rcases (j).cs with ⟨a,b⟩ | ⟨q,a,b⟩ <;> (subst a; rw [b]; kernel_rfl)) (wln (cn H (fun l H=>?_) (fun l H=>?_))))))))))
 ·refine sr (va (I 0) (wln (W.ret (thr ?_))));obtain rfl:=si H;exact r1 (qq c0 ⟨d,rfl⟩)
 refine W.skip (nrm (sr (va (v1) (bn H fun p n H=>?_))));obtain ⟨g,rfl,m⟩:=(j).get n;refine vv (Q g) (bn H fun e o H=>?_);obtain ⟨v8,s,i,h⟩:=Rel.open_row_Row k o m;refine vx (le1 0 cI (d.gon i 0 rfl)) (vx (lnO 3 cI h) (va (I (e.cells.length:Int)) (wln (W.ret ?_))));obtain rfl:=si H;exact r1 (qq c0 ⟨d,rfl⟩)
def ey (sg:Sto) (p0:Option Nat):Option (List aa):=
 (bM sg p0).bind fun b=>
 (cv (σ:=(List aa)×Int) (τ:=(List aa)) ((b - 0).toNat+1) (fun a=>
 if (decide (a.2 < b))=true then
 (p0).bind fun c=>
 (sg.row_Row[c]?).bind fun d=>
 (idx d.cells a.2).bind fun e=>
 (lC e).bind fun f=>
 (app a.1 ([f]:List aa)).bind fun g=>
 some (.inl (g,(w64 (a.2+1))))
 else
 some (.inr (a.1))) (([]:List aa),0)).bind fun h=>
 some h
theorem lm (O0:Own c0 G F) (R0:Rel c0 sg G) (M:Option Nat) {r:List aa} (h2:Pt 0 c0 v1 M) (H:ey sg M=some r): Calls prog 125 #[v1] c0.w (aP c0 fun c v=>∃N y2,Own c G (es true aw N 114 y2 r :: F)∧v=N∧OA aw c N y2 r):=by
 unfold ey at H;refine en func125 rfl rfl (sr (va (Y) (wln (sr (va (Y) (wln (W.seq (sr (va (v1) (bn H fun E h3 H=>cl (cF O0 R0 M h2 h3) ?_))))))))));rintro v9 o l8 ⟨O5,rfl⟩;refine va (I 0) (wln (W.block (bn H fun j2 x p=>lp x (fun a=>Jn o fun c l=>∃v12 f,Own c G (es true aw v12 114 f a.1 :: F)∧l= [(0,v1),(3,v12),(6,I E),(7,I a.2)]∧OA aw c v12 f a.1) (fun k ex e w=>ex= .exit 0∧(Jn o fun c l=>∃v14 g,Own c G (es true aw v14 114 g k :: F)∧l= [(3,v14)]∧OA aw c v14 g k) e w) ?_ ?_ ?_)))
 ·clear p x;intro a n2 h0 f1 H;revert h0 f1;rintro e_ w_ ⟨e0,z1,_,rfl,l16,rfl,v12,f,d,rfl,y⟩;refine sr (va (B (decide (a.2 < E))) (wln (W.seq (cn H (fun j0 H=>?_) (fun j0 H=>?_)))))
  ·refine W.skip (nrm (W.seq (W.block (sr (vv (I a.2) (wln (W.region (va (v12) (va (v1) (bn H fun m1 l0 H=>?_))))))))));obtain ⟨u,rfl,k0⟩:=((h2.mono (l8.trans l16))).get l0;refine vv (Q u) (bn H fun p1 m0 H=>?_);obtain ⟨v28,k2,z,h⟩:=Rel.open_row_Row (R0.mono (l8.trans l16)) m0 k0;refine vx (le1 0 cI (d.gon z 0 rfl)) (va (I a.2) (bn H fun b i H=>vx (ixO cI h i) ?_));obtain ⟨n1,o0,d1⟩:=OA.at h i;obtain ⟨v36,rfl,q0⟩:=o0;refine vr (.agg #[I b.Kind,v36]) (rx (by kernel_rfl) (Gz (T:=114) (l:=[I b.Kind,v36]) (by kernel_rfl) (by kernel_rfl) (d.gon z 1 rfl) (h.blk i) (at2 (j:=0) d1 rfl))) (bn H fun n s0 H=>cl (qS d b q0 s0) ?_);rintro v47 t1 c2 ⟨v39,l2,P,rfl,t0⟩;obtain ⟨u1,u0,d2,R,A⟩:=P.frz 0 rfl t0;refine WL.gh u0 ?_;obtain ⟨q,s,t,rfl⟩:=(A).form;refine me (sl aw 114 [[I n.Kind,.slice q s t]] ([n]:List aa) R ⟨⟨(.slice q s t),rfl,A⟩,trivial⟩) ?_;rintro v59 w1 e2 ⟨m2,S,v0⟩;obtain ⟨x1,x0,f2,U,w0⟩:=S.frz 0 rfl v0;refine WL.gh x0 (bn H fun s1 y0 H=>me (ap aw (.agg #[I 0,Y]) 32 46 2 U y.m w0 y0 cI) ?_);rintro D f0 g2 ⟨e1,X,z0⟩;refine va (D) (WL.nil (bkn (nrm (W.region (vv (I (w64 (a.2+1))) (WL.nil ?_))))));obtain rfl:=si H;refine ⟨_,rfl,?_⟩;have Z:=X.sD 3 [2];exact jn f0 ⟨D,e1,Z,rfl,z0⟩
  refine W.exit (thx ?_);obtain rfl:=si H;exact ⟨_,rfl,rfl,jn e0 ⟨v12,f,d,rfl,y⟩⟩
 ·have a1:OA aw o (Y) [] []:=OA.nil (aZ _);have a0:=O5.addHole (e:=es true aw (Y) 114 [] ([]:List aa)) rfl;exact jn o ⟨(Y),[],a0,rfl,a1⟩
 rintro _ e_ w_ ⟨rfl,g0,b2,_,rfl,i2,rfl,v14,g,b0,rfl,b1⟩;refine bke (nrm (sr (vv (v14) (wln (W.ret ?_)))));obtain rfl:=si p;exact r1 (qq g0 ⟨v14,g,b0,rfl,b1⟩)
def fP (sg:Sto) (p0:Option Nat) (p1:Int):Option (aa×Bool):=
 (orE (decide (p1 < 0)) ((bM sg p0).bind fun c=>
 some (decide (p1≥c)))).bind fun f=>
 if f=true then
 some ((⟨0,([]:List Int)⟩:aa),false)
 else
 (p0).bind fun a=>
 (sg.row_Row[a]?).bind fun b=>
 (idx b.cells p1).bind fun d=>
 (lC d).bind fun e=>
 some (e,true)
theorem qx (O0:Own c0 G F) (Z:Rel c0 sg G) (E:Option Nat) (a:Int) {r:aa×Bool} (h2:Pt 0 c0 v1 E) (H:fP sg E a=some r): Calls prog 321 #[v1,I a] c0.w (aP c0 fun c v=>∃M y2,Own c G (es true (RI .i32) M 21 y2 r.1.Text :: F)∧v= .tuple #[.agg #[I r.1.Kind,M],B r.2]∧OA (RI .i32) c M y2 r.1.Text):=by
 unfold fP at H;refine en func321 rfl rfl (sr (me (al 114 [I 0,Y] O0) ?_));rintro v6 c5 l5 ⟨b3,rfl,S⟩;refine va (B false) (wln (W.seq (W.seq (bn H fun e0 h7 H=>W.join (Jn c5 fun c l=>Own c G ((Eb b3 114 [I 0,Y]) :: F)∧l= [(0,v1),(1,I a),(4,Q b3),(13,B e0)]) ?_ ?_))))
 ·clear H;refine W.region (va (I a) (va (B (decide (a < 0))) ?_));rcases bo (decide (a < 0)) with p | p
  ·obtain rfl:=orT p h7;exact vb p (pz (pz (va (B true) (wln (jn c5 ⟨S,rfl⟩)))))
  have D:=orF p h7;refine vb p (wa (I a) (wa (v1) (wn (bn D fun q f0 D=>cl (cF S Z.m E h2.m f0) ?_))));rintro v16 b0 e1 ⟨N,rfl⟩;refine wa (B (decide (a≥q))) ?_;obtain rfl:=si D;exact va (B (decide (a≥q))) (wln (jn b0 ⟨N,rfl⟩))
 rintro e_ w_ ⟨b1,d1,_,rfl,A,rfl,d,rfl⟩;refine nrm (cn H (fun h0 H=>?_) (fun h0 H=>?_))
 ·refine sr (va (.agg #[I 0,Y]) (md (sA 114 [I 0,Y] 0 d ⟨rfl,rfl,trivial⟩) ?_));rintro i f1 P;refine va (B false) (wln (W.ret (thr ?_)));obtain rfl:=si H;have i0:OA (RI .i32) i (Y) [] []:=OA.nil (aZ _);have t:=P.addHole (e:=es true (RI .i32) (Y) 21 [] ([]:List Int)) rfl;have R:=t.sD 2 [0];exact yh (c:=i) (vs:=[I 0,Y]) (v:=B false) rfl (by kernel_rfl) (by kernel_rfl) (by kernel_rfl) (by kernel_rfl) (t.on 1 rfl _ rfl).1 ⟨_,i,rfl,rfl,pt,(Y),[],R,rfl,i0⟩
 refine W.skip (nrm (sr (va (v1) (bn H fun y0 k0 H=>?_))));obtain ⟨x,rfl,j0⟩:=((h2.mono (l5.trans A))).get k0;refine vv (Q x) (bn H fun a1 l0 H=>?_);obtain ⟨v33,i1,z,k⟩:=Rel.open_row_Row (Z.mono (l5.trans A)) l0 j0;refine vx (le1 0 cI (d.gon z 0 rfl)) (va (I a) (bn H fun b n H=>vx (ixO cI k n) ?_));obtain ⟨z0,m0,u0⟩:=OA.at k n;obtain ⟨v41,rfl,o0⟩:=m0;refine vr (.agg #[I b.Kind,v41]) (rx (by kernel_rfl) (Gz (T:=114) (l:=[I b.Kind,v41]) (by kernel_rfl) (by kernel_rfl) (d.gon z 1 rfl) (k.blk n) (at2 (j:=0) u0 rfl))) (bn H fun s q0 H=>cl (qS d b o0 q0) ?_);rintro v52 c1 g1 ⟨v44,v0,U,rfl,o⟩;obtain ⟨f,g,h,rfl⟩:=(o).form;refine md (sA 114 [I s.Kind,.slice f g h] 1 U ⟨rfl,(o).one,trivial⟩) ?_;rintro y h1 u;refine va (B true) (wln (W.ret ?_));obtain rfl:=si H;have X:=u.sD 2 [0];exact yh (c:=y) (vs:=[I s.Kind,.slice f g h]) (v:=B true) rfl (by kernel_rfl) (by kernel_rfl) (by kernel_rfl) (by kernel_rfl) (u.on 1 rfl _ rfl).1 ⟨_,y,rfl,rfl,pt,(.slice f g h),v0,X,rfl,o.m⟩
def gM (sg:Sto) (p0:Option Nat) (p1:Int):Option (Int):=
 (orE (decide (p1 < 0)) ((bM sg p0).bind fun e=>
 some (decide (p1≥e)))).bind fun d=>
 if d=true then
 some 0
 else
 (p0).bind fun a=>
 (sg.row_Row[a]?).bind fun b=>
 (idx b.cells p1).bind fun c=>
 some c.Kind
theorem qw (q:Own c0 G F) (s:Rel c0 sg G) (p:Option Nat) (a:Int) {r:Int} (y:Pt 0 c0 v1 p) (H:gM sg p a=some r): Calls prog 282 #[v1,I a] c0.w (aP c0 fun c v=>Own c G (F)∧v=I r):=by
 unfold gM at H;refine en func282 rfl rfl (sr (va (I 0) (wln (W.seq (W.seq (bn H fun u E H=>W.join (Jn c0 fun c l=>Own c G (F)∧l= [(0,v1),(1,I a),(12,B u)]) ?_ ?_))))))
 ·clear H;refine W.region (va (I a) (va (B (decide (a < 0))) ?_));rcases bo (decide (a < 0)) with f | f
  ·obtain rfl:=orT f E;exact vb f (pz (pz (va (B true) (wln (jn c0 ⟨q,rfl⟩)))))
  have o:=orF f E;refine vb f (wa (I a) (wa (v1) (wn (bn o fun n R o=>cl (cF q s p y R) ?_))));rintro v12 t a0 ⟨P,rfl⟩;refine wa (B (decide (a≥n))) ?_;obtain rfl:=si o;exact va (B (decide (a≥n))) (wln (jn t ⟨P,rfl⟩))
 rintro e_ w_ ⟨i,X,_,rfl,m,rfl,b,rfl⟩;refine nrm (cn H (fun x H=>?_) (fun x H=>?_))
 ·refine sr (va (I 0) (wln (W.ret (thr ?_))));obtain rfl:=si H;exact r1 (qq i ⟨b,rfl⟩)
 refine W.skip (nrm (sr (va (v1) (bn H fun S A H=>?_))));obtain ⟨h,rfl,z⟩:=((y.mono m)).get A;refine vv (Q h) (bn H fun U D H=>?_);obtain ⟨v24,b0,k,d⟩:=Rel.open_row_Row (s.mono m) D z;refine vx (le1 0 cI (b.gon k 0 rfl)) (va (I a) (bn H fun g e H=>vx (ixO cI d e) (va (Qo (sb v24) (a.toNat * 2)) ?_)));obtain ⟨T,M,N⟩:=OA.at d e;obtain ⟨v32,rfl,Z⟩:=M;refine vr (I g.Kind) (rx (by kernel_rfl) (mE u_3 rfl (b.gon k 1 rfl) (d.blk e) (at1 (j:=0) N rfl))) (va (I g.Kind) (wln (W.ret ?_)));obtain rfl:=si H;exact r1 (qq i ⟨b,rfl⟩)
def fI (sg:Sto) (p0:Option Nat) (p1:Int) (p2:aa):Option (Sto):=
 (p0).bind fun d=>
 (sg.row_Row[d]?).bind fun e=>
 (lC p2).bind fun f=>
 (idx e.cells p1).bind fun g=>
 (nT e.cells p1 f).bind fun b=>
 (sg.set_row_Row d (⟨b,e.wrap⟩:bp)).bind fun a=>
 if (p1==(w64 ((b.length:Int) - 1)))=true then
 (a.set_row_Row d (⟨b,false⟩:bp)).bind fun c=>
 some c
 else
 some a
theorem nY (O0:Own c0 G F) (R0:Rel c0 sg G) (p0:Option Nat) (o:Int) (p:aa) {r:Sto} (h2:Pt 0 c0 v1 p0) (h4:Sl (RI .i32) c0 v3 p.Text) (H:fI sg p0 o p=some r): Calls prog 283 #[v1,I o,.agg #[I p.Kind,v3]] c0.w (aP c0 fun c v=>∃G_:Gm,Own c G_ (F)∧Rel c r G_∧v= .tuple #[]):=by
 unfold fI at H;refine en func283 rfl rfl (sr ?_);obtain ⟨a5,a6,a7,rfl⟩:=(h4).form;refine me (bx 114 [I p.Kind,.slice a5 a6 a7] O0) ?_;rintro v12 b2 l ⟨b8,rfl,O9,f1⟩;refine wln (W.seq (rD [8] (Kp G []) O9 ?_));intro k0 n s;have i1:Kp G [] k0:=(Kp.nil s);refine ta 0 (v1) (bn H fun d2 s0 H=>?_);obtain ⟨a,rfl,i⟩:=((h2.mono (l.trans n))).get s0;refine ta 1 (Q a) (ta 2 (Q a) (bn H fun g1 t0 H=>?_));obtain ⟨v20,e2,A,z⟩:=Rel.open_row_Row (R0.mono (l.trans n)) t0 i;refine tkx 3 i1 (fun c' E hk=>le1 0 cI (hk.gon A 0 rfl)) (ta 4 (I o) (tx 5 (fun c' E=>lN 114 (mm f1)) (bn H fun q u0 H=>o1 6 (gc 6 (qS s p h4.m u0) ?_))));rintro v33 l0 d1 ⟨v25,f2,t,rfl,v0⟩;have j1:Kp G [] l0:=(Kp.nil t);refine ⟨.inr j1,bn H fun x1 w0 H=>tx 7 (fun c' E=>ixO cI z.m w0) ?_⟩;obtain ⟨m0,x0,M,x,j⟩:=t.frz 0 rfl v0;have k1:Kp G [] m0:=(Kp.nil x);refine AC.gh x0 M (fun _=>k1) ?_;obtain ⟨f,g,h,rfl⟩:=(j).form;have Z:=x.borrow 1 A rfl;refine bn H fun b z0 H=>o1 8 (gD 8 (Own.stW (R:=aw) (T:=114) (us:=[I q.Kind,.slice f g h]) (x':=q) (u:= .agg #[I q.Kind,.slice f g h]) 0 Z (by kernel_rfl) rfl z.m z0 rfl (by kernel_rfl) ⟨rfl,j.one,trivial⟩ rfl ⟨(.slice f g h),rfl,j⟩) ?_);rintro o0 e1 ⟨d,a0,k⟩;have b0:=a0.giveB 1 rfl;refine bn H fun P a1 H=>?_;obtain ⟨U,e,y,D,y1⟩:=Rel.put_row_Row b0 (R0.mono (l.trans (n.trans (d1.trans (M.trans e1))))) (E':=[(Eb a 253 [v20,B g1.wrap]),es true aw v20 114 d b]) a1 ⟨a,v20,d,(tm i),rfl,k⟩;refine ⟨.inl rfl,dn (nrm (sr (va (I o) (vv (Q a) (va (Q a) (vx (le1 0 cI (e.gon D 0 rfl)) (vx (lnO 3 cI k) (va (I (w64 ((b.length:Int) - 1))) (va (B (o==(w64 ((b.length:Int) - 1)))) (wln (cn H (fun b1 H=>?_) (fun b1 H=>?_))))))))))))⟩
 ·refine W.region (vv (Q a) (va (Qo a 1) (md (gC 4 1 (B false) [v20,B false] 0 e D ⟨rfl,trivial⟩) ?_)));rintro q0 N d0;refine bn H fun S c1 H=>?_;obtain ⟨X,e0,i0,c2,z1⟩:=Rel.put_row_Row d0 (y.mono N) (E':=[(Eb a 253 [v20,B false]),es true aw v20 114 d b]) c1 ⟨a,v20,d,(tm i),rfl,(k.mono N)⟩;refine WL.nil ?_;obtain rfl:=si H;have f0:=e0.sD 1 [];exact n0 (qq q0 ⟨X,f0,i0,rfl⟩)
 refine W.skip ?_;obtain rfl:=si H;have g0:=e.sD 1 [];exact n0 (qq o0 ⟨U,g0,y,rfl⟩)
def dN (sg:Sto) (p0:Option Nat) (p1:Int) (p2:List aa):Option (Sto×Er):=
 (orE p0.isNone (some (decide (p1 < 0)))).bind fun q=>
 (orE q ((p0).bind fun d=>
 (sg.row_Row[d]?).bind fun f=>
 some (decide (p1 > (f.cells.length:Int))))).bind fun r=>
 (orE r ((p0).bind fun e=>
 (sg.row_Row[e]?).bind fun g=>
 some (decide ((p2.length:Int) > (w64 ((g.cells.length:Int) - p1)))))).bind fun c=>
 if c=true then
 some (sg,(Er.sent 2))
 else
 (kD p2).bind fun i=>
 if (!i)=true then
 some (sg,(Er.sent 4))
 else
 if ((p2.length:Int)==0)=true then
 some (sg,Er.nil)
 else
 ((gM sg p0 p1).bind fun j=>
 if (j==3)=true then
 (fI sg p0 (w64 (p1 - 1)) (⟨0,([]:List Int)⟩:aa)).bind fun k=>
 some (k)
 else
 some (sg)).bind fun b=>
 ((gM b p0 (w64 (p1+(p2.length:Int)))).bind fun l=>
 if (l==3)=true then
 (fI b p0 (w64 (p1+(p2.length:Int))) (⟨0,([]:List Int)⟩:aa)).bind fun m=>
 some (m)
 else
 some (b)).bind fun p=>
 (cv (σ:=Int×Sto) (τ:=Sto) (((p2.length:Int) - 0).toNat+1) (fun a=>
 if (decide (a.1 < (p2.length:Int)))=true then
 (idx p2 a.1).bind fun n=>
 (fI a.2 p0 (w64 (p1+a.1)) n).bind fun o=>
 some (.inl ((w64 (a.1+1)),o))
 else
 some (.inr (a.2))) (0,p)).bind fun h=>
 some (h,Er.nil)
theorem jD (A:Own c0 G F) (o:Rel c0 sg G) (hG:Gl [2,4] c0) (j:Option Nat) (a:Int) (f:List aa) {r:Sto×Er} (s:Pt 0 c0 v1 j) (x:Sl aw c0 v3 f) (H:dN sg j a f=some r): Calls prog 234 #[v1,I a,v3] c0.w (aP c0 fun c v=>∃y1,∃G_:Gm,Own c G_ (F)∧Rel c r.1 G_∧v=y1∧RE 350 144 c y1 r.2):=by
 unfold dN at H;refine en func234 rfl rfl (sr (va (.nilIface) (wln (W.seq (W.block (W.seq (bn H fun u4 h5 H=>bn H fun v4 h6 H=>bn H fun j1 h7 H=>W.join (Jn c0 fun c l=>Own c G (F)∧l= [(0,v1),(1,I a),(2,v3),(10,B j1)]) ?_ ?_)))))))
 ·clear H;refine W.region (va (v1) (vr (B j.isNone) (by rcases (s).cs with ⟨q0,s0⟩ | ⟨b_,q0,s0⟩ <;> (subst q0; rw [s0]; kernel_rfl)) ?_));rcases bo (j.isNone) with h8 | h8
  ·obtain rfl:=orT h8 h5;refine vb h8 (pz (va (B true) ?_));have h9:true=true:=rfl;obtain rfl:=orT h9 h6;refine vb h9 (pz (pz (pz (ps (va (B true) ?_)))));have m0:true=true:=rfl;obtain rfl:=orT m0 h7;exact vb m0 (pz (pz (pz (pz (pz (vv (B true) (wln (jn c0 ⟨A,rfl⟩))))))))
  have g2:=orF h8 h5;refine vb h8 (wa (I a) (wa (B (decide (a < 0))) ?_));obtain rfl:=si g2;refine va (B (decide (a < 0))) ?_;rcases bo (decide (a < 0)) with q | q
  ·obtain rfl:=orT q h6;refine vb q (pz (pz (pz (ps (va (B true) ?_)))));have o0:true=true:=rfl;obtain rfl:=orT o0 h7;exact vb o0 (pz (pz (pz (pz (pz (vv (B true) (wln (jn c0 ⟨A,rfl⟩))))))))
  have k:=orF q h6;refine vb q (wa (I a) (wa (v1) (wn (bn k fun i4 a3 k=>?_))));obtain ⟨p,rfl,z2⟩:=(s).get a3;refine va (Q p) (wa (Q p) (wn (bn k fun y b3 k=>?_)));obtain ⟨v19,d5,d3,c3⟩:=Rel.open_row_Row o b3 z2;refine vx (le1 0 cI (A.gon d3 0 rfl)) (wn (vx (lnO 3 cI c3) (wa (B (decide (a > (y.cells.length:Int)))) ?_)));obtain rfl:=si k;refine va (B (decide (a > (y.cells.length:Int)))) ?_;rcases bo (decide (a > (y.cells.length:Int))) with t | t
  ·obtain rfl:=orT t h7;exact vb t (pz (pz (pz (pz (pz (vv (B true) (wln (jn c0 ⟨A,rfl⟩))))))))
  have n:=orF t h7;refine vb t (wa (v3) (wn (vx (ln 3 cI x) (wa (Q p) (wn (bn n fun j4 f3 n=>?_))))));have e3:=(s).get2 f3;refine va (Q p) (wa (Q p) (wn (bn n fun i g3 n=>?_)));obtain ⟨v29,e5,i3,h3⟩:=Rel.open_row_Row o g3 e3;refine vx (le1 0 cI (A.gon i3 0 rfl)) (wn (vx (lnO 3 cI h3) (wa (I a) (wa (I (w64 ((i.cells.length:Int) - a))) (wa (B (decide ((f.length:Int) > (w64 ((i.cells.length:Int) - a))))) ?_)))));obtain rfl:=si n;exact vv (B (decide ((f.length:Int) > (w64 ((i.cells.length:Int) - a))))) (wln (jn c0 ⟨A,rfl⟩))
 rintro e_ w_ ⟨s2,w4,_,rfl,d0,rfl,j0,rfl⟩;refine nrm (cn H (fun j3 H=>?_) (fun j3 H=>?_))
 ·refine sr ?_;obtain ⟨v40,t0⟩:=(hG.mono d0).get 2 (by decide);refine vx (l1 rS t0.im) (va (v40) (wln (W.ret (bkr (thr ?_)))));obtain rfl:=si H;exact r1 (qq s2 ⟨v40,G,j0,o.m,rfl,t0⟩)
 refine sr (va (v3) (bn H fun e0 k3 H=>cl (sS j0 f x.m k3) ?_));rintro v48 X w0 ⟨N,rfl⟩;refine vv (B (!e0)) (wln (cn H (fun l3 H=>?_) (fun l3 H=>?_)))
 ·refine sr ?_;obtain ⟨v50,u0⟩:=(hG.mono (d0.trans w0)).get 4 (by decide);refine vx (l1 rS u0.im) (va (v50) (wln (W.ret (bkr (thr ?_)))));obtain rfl:=si H;exact r1 (qq X ⟨v50,G,N,o.m,rfl,u0⟩)
 refine sr (va (v3) (vx (ln 3 cI x.m) (vv (B ((f.length:Int)==0)) (wln (cn H (fun n3 H=>?_) (fun n3 H=>?_))))))
 ·refine sr (va (.nilIface) (wln (W.ret (bkr (thr ?_)))));obtain rfl:=si H;exact r1 (qq X ⟨.nilIface,G,N,o.m,rfl,rfl⟩)
 refine W.skip (bkn (nrm (bn H fun z1 g i2=>W.seqJ (Jn X fun c l=>∃G_,Own c G_ (F)∧l= [(0,v1),(1,I a),(2,v3)]∧Rel c z1 G_) ?_ ?_)))
 ·refine sr (va (v1) (va (I a) (bn g fun w1 o3 g=>cl (qw N o.m j a s.m o3) ?_)));rintro f5 t2 z4 ⟨k0,rfl⟩;refine va (B (w1==3)) (wln (cn g (fun p3 g=>?_) (fun p3 g=>?_)))
  ·refine W.region (va (v1) (va (I a) (va (I (w64 (a - 1))) (va (.agg #[I 0,Y]) (bn g fun r4 q3 g=>cl (nY k0 o.m j (w64 (a - 1)) (⟨0,([]:List Int)⟩:aa) s.m (Sl.nl _ _) q3) ?_)))));rintro g5 u2 a5 ⟨c2,j2,n2,rfl⟩;refine wln ?_;obtain rfl:=si g;exact jn u2 ⟨c2,j2,rfl,n2⟩
  refine W.skip (nrm ?_);obtain rfl:=si g;exact jn t2 ⟨G,k0,rfl,o.m⟩
 rintro e_ w_ ⟨v2,x4,_,rfl,x3,rfl,d2,k2,rfl,R⟩;refine bn i2 fun b2 h d=>W.seqJ (Jn v2 fun c l=>∃G_,Own c G_ (F)∧l= [(0,v1),(1,I a),(2,v3)]∧Rel c b2 G_) ?_ ?_
 ·refine sr (va (I a) (va (v3) (vx (ln 3 cI x.m) (vv (I (w64 (a+(f.length:Int)))) (wln (sr (va (v1) (va (I (w64 (a+(f.length:Int)))) (bn h fun x1 s3 h=>cl (qw k2 R j (w64 (a+(f.length:Int))) s.m s3) ?_)))))))));rintro i5 w2 b5 ⟨l0,rfl⟩;refine va (B (x1==3)) (wln (cn h (fun t3 h=>?_) (fun t3 h=>?_)))
  ·refine W.region (va (v1) (va (I (w64 (a+(f.length:Int)))) (va (.agg #[I 0,Y]) (bn h fun s4 u3 h=>cl (nY l0 R.m j (w64 (a+(f.length:Int))) (⟨0,([]:List Int)⟩:aa) s.m (Sl.nl _ _) u3) ?_))));rintro j5 x2 c5 ⟨e2,l2,o2,rfl⟩;refine wln ?_;obtain rfl:=si h;exact jn x2 ⟨e2,l2,rfl,o2⟩
  refine W.skip (nrm ?_);obtain rfl:=si h;exact jn w2 ⟨d2,l0,rfl,R.m⟩
 rintro e_ w_ ⟨Z,y4,_,rfl,y3,rfl,f2,m2,rfl,q2⟩;refine W.seq (sr (va (v3) (vx (ln 3 cI x.m) (va (I 0) (wln (W.block (bn d fun n4 v0 D=>lp v0 (fun b=>Jn Z fun c l=>∃G_,Own c G_ (F)∧l= [(0,v1),(1,I a),(69,v3),(70,I (f.length:Int)),(71,I b.1)]∧Rel c b.2 G_) (fun h0 ex e w=>ex= .exit 1∧(Jn Z fun c l=>∃G_,Own c G_ (F)∧l= []∧Rel c h0 G_) e w) ?_ ?_ ?_)))))))
 ·clear D v0;intro b k5 y2 z3 d;revert y2 z3;rintro e_ w_ ⟨g1,f4,_,rfl,s1,rfl,x0,E,rfl,P⟩;refine sr (va (B (decide (b.1 < (f.length:Int)))) (wln (W.seq (cn d (fun k1 d=>?_) (fun k1 d=>?_)))))
  ·refine W.skip (nrm (W.seq (W.block (sr (va (I b.1) (bn d fun z a0 d=>?_))))));obtain ⟨b4,m1,u1⟩:=Sl.at (x.mono (d0.trans (w0.trans (x3.trans (y3.trans s1))))) (aR a0);obtain ⟨o4,rfl,u⟩:=m1;refine vx (ix cI x.m a0) (vx (lN 114 u1) (me (al 114 [I 0,Y] E) ?_));rintro p4 d4 t1 ⟨c4,rfl,a1⟩;refine va (I b.1) ?_;obtain ⟨S,T,U,rfl⟩:=((u.mono t1)).form;refine md (sA 114 [I z.Kind,.slice S T U] 0 a1 ⟨rfl,u.m.one,trivial⟩) ?_;rintro e4 k4 M;refine wln (W.region (va (v1) (va (I a) (va (I b.1) (va (I (w64 (a+b.1))) (vx (leN 114 0 [I z.Kind,.slice S T U] (M.on 0 rfl)) (bn d fun t4 n1 d=>cl (nY M P.m j (w64 (a+b.1)) z s.m u.m n1) ?_)))))));rintro q4 h1 l4 ⟨y0,b1,e1,rfl⟩;refine WL.nil (bkn (nrm (W.region (vv (I (w64 (b.1+1))) (WL.nil ?_)))));obtain rfl:=si d;refine ⟨_,rfl,?_⟩;have c1:=b1.sD 1 [];exact jn h1 ⟨y0,c1,rfl,e1⟩
  refine W.exit (thx ?_);obtain rfl:=si d;exact ⟨_,rfl,rfl,jn g1 ⟨x0,E,rfl,P⟩⟩
 ·exact jn Z ⟨f2,m2,rfl,q2⟩
 rintro _ e_ w_ ⟨rfl,i1,g4,_,rfl,m4,rfl,z0,d1,rfl,f1⟩;refine bke (nrm (sr (va (.nilIface) (wln (W.ret ?_)))));obtain rfl:=si D;exact r1 (qq i1 ⟨.nilIface,z0,d1,f1,rfl,rfl⟩)
def eY (sg:Sto) (p0:Option Nat) (p1:Bool):Option (Sto):=
 if (!p0.isNone)=true then
 (p0).bind fun b=>
 (sg.row_Row[b]?).bind fun c=>
 (sg.set_row_Row b (⟨c.cells,p1⟩:bp)).bind fun a=>
 some a
 else
 some sg
theorem lY (j:Own c0 G F) (g:Rel c0 sg G) (h:Option Nat) (a:Bool) {r:Sto} (s:Pt 0 c0 v1 h) (H:eY sg h a=some r): Calls prog 242 #[v1,B a] c0.w (aP c0 fun c v=>∃G_:Gm,Own c G_ (F)∧Rel c r G_∧v= .tuple #[]):=by
 unfold eY at H;refine en func242 rfl rfl (sr (va (v1) (vr (B (!h.isNone)) (by rcases (s).cs with ⟨d,e⟩ | ⟨P,d,e⟩ <;> (subst d; rw [e]; kernel_rfl)) (wln (cn H (fun z H=>?_) (fun z H=>?_))))))
 ·refine W.region (va (v1) (va (B a) (bn H fun N A H=>?_)));obtain ⟨b,rfl,t⟩:=(s).get A;refine va (Q b) (va (Qo b 1) (bn H fun u D H=>?_));obtain ⟨v8,y,p,o⟩:=Rel.open_row_Row g D t;refine md (gC 4 1 (B a) [v8,B a] 0 j p ⟨rfl,trivial⟩) ?_;rintro n f k;refine bn H fun x q H=>?_;obtain ⟨i,l,m,M,E⟩:=Rel.put_row_Row k (g.mono f) (E':=[(Eb b 253 [v8,B a]),es true aw v8 114 y u.cells]) q ⟨b,v8,y,(tm t),rfl,(o.mono f)⟩;refine WL.nil ?_;obtain rfl:=si H;exact n0 (qq n ⟨i,l,m,rfl⟩)
 refine W.skip ?_;obtain rfl:=si H;exact n0 (qq c0 ⟨G,j,g,rfl⟩)
def jg (sg:Sto) (p0:Option Nat):Option (Bool):=
 (bD (!p0.isNone) ((p0).bind fun c=>
 (sg.row_Row[c]?).bind fun a=>
 some a.wrap)).bind fun b=>
 some b
theorem vz (h:Own c0 G F) (q:Rel c0 sg G) (e:Option Nat) {r:Bool} (o:Pt 0 c0 v1 e) (H:jg sg e=some r): Calls prog 126 #[v1] c0.w (aP c0 fun c v=>Own c G (F)∧v=B r):=by
 unfold jg at H;refine en func126 rfl rfl (sr (va (B false) (wln (W.seq (bn H fun m p H=>W.join (Jn c0 fun c l=>Own c G (F)∧l= [(2,B m)]) ?_ ?_)))))
 ·clear H;refine W.region (va (v1) (vr (B (!e.isNone)) (by rcases (o).cs with ⟨f,g⟩ | ⟨E,f,g⟩ <;> (subst f; rw [g]; kernel_rfl)) ?_));rcases bo (!e.isNone) with b | b
  ·have a:=anT b p;refine vb b (wa (v1) (wn (bn a fun z t a=>?_)));obtain ⟨j,rfl,s⟩:=(o).get t;refine va (Q j) (wa (Qo j 1) (wn (bn a fun d u a=>?_)));obtain ⟨v10,D,n,y⟩:=Rel.open_row_Row q u s;refine vx (le1 1 u_4 (h.gon n 0 rfl)) ?_;obtain rfl:=si a;exact vv (B d.wrap) (wln (jn c0 ⟨h,rfl⟩))
  obtain rfl:=anF b p;exact vb b (pz (pz (vv (B false) (wln (jn c0 ⟨h,rfl⟩)))))
 rintro M N ⟨k,x,_,rfl,A,rfl,i,rfl⟩;refine nrm (W.ret ?_);obtain rfl:=si H;exact r1 (qq k ⟨i,rfl⟩)
def hU (p0:List aa) (p1:Bool) (p2:Int) (p3:List aa):Option ((List aa)×Bool):=
 (cv (σ:=Bool×(List aa)×Int) (τ:=(Bool×(List aa))) (((p0.length:Int) - 0).toNat+1) (fun a=>
 if (decide (a.2.2 < (p0.length:Int)))=true then
 (bD (decide (a.2.2≥p2)) (some (decide (a.2.2 < (w64 (p2+(p3.length:Int))))))).bind fun c=>
 (idx p0 a.2.2).bind fun e=>
 (if c=true then
 (idx p3 (w64 (a.2.2 - p2))).bind fun f=>
 some (f.Kind,f.Text)
 else
 some (e.Kind,e.Text)).bind fun b=>
 (bD (!c) ((bD (b.1==2) (some (decide ((w64 (a.2.2+1))≥p2)))).bind fun l=>
 (bD l (some (decide ((w64 (a.2.2+1)) < (w64 (p2+(p3.length:Int))))))).bind fun m=>
 (orE m ((bD (b.1==3) (some (decide ((w64 (a.2.2 - 1))≥p2)))).bind fun o=>
 (bD o (some (decide ((w64 (a.2.2 - 1)) < (w64 (p2+(p3.length:Int))))))).bind fun p=>
 some p)).bind fun n=>
 some n)).bind fun d=>
 (if d=true then
 some (0,([]:List Int))
 else
 some (b.1,b.2)).bind fun g=>
 ((bD ((w64 (a.2.2+1))==(p0.length:Int)) ((orE c (some d)).bind fun i=>
 some i)).bind fun h=>
 if h=true then
 some (false)
 else
 some (a.1)).bind fun q=>
 (app a.2.1 ([(⟨g.1,g.2⟩:aa)]:List aa)).bind fun j=>
 some (.inl (q,j,(w64 (a.2.2+1))))
 else
 some (.inr (a.1,a.2.1))) (p1,([]:List aa),0)).bind fun k=>
 some (k.2,k.1)
end Go.Proofs.YtclmdpamofdoiaaGreatDoor
