/- Parts of the proofs of TopDraws: the walk through the code, and plain Lean. No condition. -/
import Derived.Test.YtkgjnbiiiifoaaaGreatDoorTdA
import Derived.Test.YtkgjnbiiiifoaaaGreatDoorProg
import Derived.WalkKit
import Derived.LaidEql
import Derived.Stop.Asserts
import Derived.RowKitTokens
import Derived.Elder7
import Derived.Test.YtkgjnbiiiifoaaaGreatDoorTdD
import Derived.Test.YtkgjnbiiiifoaaaGreatDoorTdB
import Derived.Test.YtkgjnbiiiifoaaaGreatDoorTdC
import Derived.OpenShut
import Derived.LaidLaws
import Derived.Handed
import Derived.Lay
import Derived.JoinedOf
import Derived.KernelRfl
import Derived.SizedLaws
import Derived.Shelf.Vars
import Derived.ChangeMaps5
set_option linter.unusedVariables false
set_option linter.unusedSimpArgs false
namespace Go.Proofs.YtkgjnbiiiifoaaaGreatDoor
open Go Go.Lt
set_option maxRecDepth 10000
set_option linter.unusedVariables false
attribute [local irreducible] W WL AC
open Go.RowKit Go.Extern.Stop Go.Stop Go.Extern
theorem AH (t:Addr) (w:World):(ReflectliteValue.unpack (.iface 82 (.pointer (some t)))).run Tryz.prog w
 = .ok (.agg #[.pointer (some ⟨17,82,none⟩),.pointer (some ⟨w.heap.size,0,none⟩),.int .u64 150]) (w.alloc (.cells #[.pointer (some t)] 82)):=by kernel_rfl
theorem E4 (a:Addr) (w:World):(ReflectliteValue.methodAny (ReflectliteValue.valueError "reflectlite.Value.Type" 0) (fun t _ _ _=>ReflectliteType.toType t) #[.agg #[.pointer (some ⟨17,82,none⟩),.pointer (some a),.int .u64 150]]).run Tryz.prog w
 = .ok (.iface 187 (.agg #[.pointer (some ⟨17,82,none⟩)])) w:=by kernel_rfl
theorem yY (h:Value) (w:World):(Go.method 481 187 (.agg #[h]) "Kind").run Tryz.prog w= .ok (336,h) w:=by kernel_rfl
theorem E5 (w:World):((ReflectliteType.abiMethod fun t=>(fun a:Nat=>Value.int IntKind.u8 (a:Int)) <$> Rtype.kind t) #[.pointer (some ⟨17,82,none⟩)]).run Tryz.prog w= .ok (.int .u8 22) w:=by kernel_rfl
theorem E6 (w:World):((ReflectliteType.abiMethod fun t=>(fun a:Nat=>Value.int IntKind.u8 (a:Int)) <$> Rtype.kind t) #[.pointer (some ⟨17,80,none⟩)]).run Tryz.prog w= .ok (.int .u8 22) w:=by kernel_rfl
theorem Hb (z:Sem Value) (f:TypeId->Addr->Nat->Nat->Sem Value) (v:Value):
 ReflectliteValue.method z f #[v]=(do match <-ReflectliteValue.parts v with|none=>z|some (t,a,fl)=>f t a fl (fl % 32)):=rfl
theorem yy (a:Addr) (w:World):(ReflectliteValue.parts (.agg #[.pointer (some ⟨17,82,none⟩),.pointer (some a),.int .u64 150])).run Tryz.prog w= .ok (some (82,a,150)) w:=by kernel_rfl
theorem CV (a p:Addr) (W:World) (ha:W.cell? a=some (.pointer (some p))):
  (ReflectliteValue.method (ReflectliteValue.valueError "reflectlite.Value.IsNil" 0) ReflectliteValue.isNil #[.agg #[.pointer (some ⟨17,82,none⟩),.pointer (some a),.int .u64 150]]).run Tryz.prog W= .ok (.bool false) W:=by
 rw [Hb];simp only [gZ,yy,Result.andThen];simp [ReflectliteValue.isNil,loadVar,isAgg,underlying,Tryz.underlying82,ha,Result.andThen]
theorem yZ (h:Value) (w:World):(Go.method 481 187 (.agg #[h]) "Elem").run Tryz.prog w= .ok (349,.agg #[h]) w:=by kernel_rfl
theorem tK (h:Value) (w:World):(Go.method 481 187 (.agg #[h]) "Implements").run Tryz.prog w= .ok (350,.agg #[h]) w:=by kernel_rfl
theorem rS (h:Value) (w:World):(Go.method 481 187 (.agg #[h]) "AssignableTo").run Tryz.prog w= .ok (347,.agg #[h]) w:=by kernel_rfl
theorem E7 (w:World):(ReflectliteType.method ReflectliteType.elem #[.agg #[.pointer (some ⟨17,82,none⟩)]]).run Tryz.prog w= .ok (.iface 187 (.agg #[.pointer (some ⟨17,80,none⟩)])) w:=by kernel_rfl
theorem wZ (w:World):(ReflectliteType.relation "Implements" ReflectliteType.implements_ #[.agg #[.pointer (some ⟨17,80,none⟩)],.iface 187 (.agg #[.pointer (some ⟨17,39,none⟩)])]).run Tryz.prog w= .ok (.bool true) w:=by kernel_rfl
theorem B6 (v:Value) (w:World):(ReflectliteType.typeOf #[.iface 80 v]).run Tryz.prog w= .ok (.iface 187 (.agg #[.pointer (some ⟨17,80,none⟩)])) w:=by kernel_rfl
theorem xa (w:World):(ReflectliteType.relation "AssignableTo" ReflectliteType.assignableTo #[.agg #[.pointer (some ⟨17,80,none⟩)],.iface 187 (.agg #[.pointer (some ⟨17,80,none⟩)])]).run Tryz.prog w= .ok (.bool true) w:=by kernel_rfl
theorem AJ (e:Addr) (w:World):(ReflectliteValue.unpack (.iface 80 (.pointer (some e)))).run Tryz.prog w
 = .ok (.agg #[.pointer (some ⟨17,80,none⟩),.pointer (some ⟨w.heap.size,0,none⟩),.int .u64 150]) (w.alloc (.cells #[.pointer (some e)] 80)):=by kernel_rfl
theorem B8 (w:World):(Rtype.elem? 82).run Tryz.prog w= .ok (some 80) w:=by kernel_rfl
theorem I0 (p:Addr) (w:World):(ReflectliteValue.mk 80 p ReflectliteValue.flagAddr).run Tryz.prog w= .ok (.agg #[.pointer (some ⟨17,80,none⟩),.pointer (some p),.int .u64 406]) w:=by kernel_rfl
theorem CW (a p:Addr) (W:World) (ha:W.cell? a=some (.pointer (some p))):
  (ReflectliteValue.method (ReflectliteValue.valueError "reflectlite.Value.Elem" 0) ReflectliteValue.elem #[.agg #[.pointer (some ⟨17,82,none⟩),.pointer (some a),.int .u64 150]]).run Tryz.prog W
   = .ok (.agg #[.pointer (some ⟨17,80,none⟩),.pointer (some p),.int .u64 406]) W:=by
 rw [Hb];simp only [gZ,yy,Result.andThen];simp [ReflectliteValue.elem,loadVar,isAgg,underlying,Tryz.underlying82,ha,Result.andThen,B8,I0]
theorem Kw (v x:Value):ReflectliteValue.set #[v,x]=(do
 let (some (dst,a,fl),some (src,b,_)):=(<-ReflectliteValue.parts v,<-ReflectliteValue.parts x)
  | unsupported (.noEntry "extern/(internal/reflectlite.Value).Set.zeroValue")
 if fl / ReflectliteValue.flagAddr % 2==0 then unsupported (.noEntry "extern/(internal/reflectlite.Value).Set.unaddressable")
 let val <-loadVar src b
 if <-Rtype.directlyAssignable dst src then storeVar dst a val
 else if <-Rtype.implements dst src then
  if (<-Rtype.kind src)==20 then
   match val with
   | .nilIface=>unsupported (.noEntry "extern/reflectlite: a nil value of one interface type handed on as a value of another")
   | _=>storeVar dst a val
  else storeVar dst a (.iface src val)
 else panicString ("reflectlite.Set: value of type " ++(<-Rtype.spelt src)++ " is not assignable to type " ++(<-Rtype.spelt dst))
 pure (.tuple #[])):=rfl
theorem B7 (a:Addr) (w:World):(ReflectliteValue.parts (.agg #[.pointer (some ⟨17,80,none⟩),.pointer (some a),.int .u64 406])).run Tryz.prog w= .ok (some (80,a,406)) w:=by kernel_rfl
theorem CU (a:Addr) (w:World):(ReflectliteValue.parts (.agg #[.pointer (some ⟨17,80,none⟩),.pointer (some a),.int .u64 150])).run Tryz.prog w= .ok (some (80,a,150)) w:=by kernel_rfl
theorem B9 (w:World):(Rtype.directlyAssignable 80 80).run Tryz.prog w= .ok true w:=by kernel_rfl
theorem Ha (ta b e:Addr) (old:Value) (W:World) (hb:W.cell? b=some (.pointer (some e))) (ht:W.cell? ta=some old) (hf:W.frozen? ta=false):
  (ReflectliteValue.set #[.agg #[.pointer (some ⟨17,80,none⟩),.pointer (some ta),.int .u64 406],.agg #[.pointer (some ⟨17,80,none⟩),.pointer (some b),.int .u64 150]]).run Tryz.prog W
   = .ok (.tuple #[]) (W.setCell ta (.pointer (some e))):=by
 rw [Kw];simp only [gZ,B7,CU,Result.andThen];simp [ReflectliteValue.flagAddr,loadVar,isAgg,underlying,Tryz.underlying80,hb,Result.andThen,B9,storeVar,Value.cells,storeCells,Addr.add];rw [run_store Tryz.prog W ta _ _ (by rfl)];simp [ht,hf]
set_option maxHeartbeats 4000000 in
theorem Ky (e t:Addr) (old:Value) (w:World) (hg:w.cell? ⟨5,0,none⟩=some (.iface 187 (.agg #[.pointer (some ⟨17,39,none⟩)]))) (ht0:w.cell? t=some old) (hf0:w.frozen? t=false):
  Calls Tryz.prog 31 #[.iface 80 (.pointer (some e)),.iface 82 (.pointer (some t))] w fun ev w'=>ev= .returned (.bool true)/\w'=((((w.alloc (.cells #[.pointer (some t)] 82)).alloc (.cells #[.pointer (some ⟨17,82,none⟩),.pointer (some ⟨w.heap.size,0,none⟩),.int .u64 150] 135)).alloc (.cells #[.pointer (some ⟨17,82,none⟩),.pointer (some ⟨w.heap.size,0,none⟩),.int .u64 150] 135)).alloc (.cells #[.pointer (some e)] 80)).setCell t (.pointer (some e)):=by
 have h6:= @cW Tryz.prog 66 _ (fun args=>ReflectliteValue.unpack (args.getD 0 (.tuple #[]))) Tryz.func66 (by kernel_rfl) (by kernel_rfl) (by kernel_rfl) (by kernel_rfl);have h7:= @cW Tryz.prog 67 _ (ReflectliteValue.methodAny (ReflectliteValue.valueError "reflectlite.Value.Type" 0) (fun t _ _ _=>ReflectliteType.toType t)) Tryz.func67 (by kernel_rfl) (by kernel_rfl) (by kernel_rfl) (by kernel_rfl);have h8:= @cW Tryz.prog 68 _ (ReflectliteValue.method (ReflectliteValue.valueError "reflectlite.Value.IsNil" 0) ReflectliteValue.isNil) Tryz.func68 (by kernel_rfl) (by kernel_rfl) (by kernel_rfl) (by kernel_rfl);have h27:= @cW Tryz.prog 336 _ (ReflectliteType.abiMethod fun t=>do pure (.int .u8 (<-Rtype.kind t))) Tryz.func336 (by kernel_rfl) (by kernel_rfl) (by kernel_rfl) (by kernel_rfl);have h37:= @cW Tryz.prog 349 _ (ReflectliteType.method ReflectliteType.elem) Tryz.func349 (by kernel_rfl) (by kernel_rfl) (by kernel_rfl) (by kernel_rfl);have h38:= @cW Tryz.prog 350 _ (ReflectliteType.relation "Implements" ReflectliteType.implements_) Tryz.func350 (by kernel_rfl) (by kernel_rfl) (by kernel_rfl) (by kernel_rfl);have h10:= @cW Tryz.prog 70 _ ReflectliteType.typeOf Tryz.func70 (by kernel_rfl) (by kernel_rfl) (by kernel_rfl) (by kernel_rfl);have h35:= @cW Tryz.prog 347 _ (ReflectliteType.relation "AssignableTo" ReflectliteType.assignableTo) Tryz.func347 (by kernel_rfl) (by kernel_rfl) (by kernel_rfl) (by kernel_rfl);have h11:= @cW Tryz.prog 118 _ (ReflectliteValue.method (ReflectliteValue.valueError "reflectlite.Value.Elem" 0) ReflectliteValue.elem) Tryz.func118 (by kernel_rfl) (by kernel_rfl) (by kernel_rfl) (by kernel_rfl);have h12:= @cW Tryz.prog 119 _ ReflectliteValue.set Tryz.func119 (by kernel_rfl) (by kernel_rfl) (by kernel_rfl) (by kernel_rfl);have tO:=B6;have mA:=rS;have a25:=xa;have v25:=AJ;have f6:=AH;have f7:=E4;have mK:=yY;have mE:=yZ;have mI:=tK;have k27:=E5;have k25:=E6;have e27:=E7;have i25:=wZ;have n8:=CV ⟨w.heap.size,0,none⟩ t ((w.alloc (.cells #[.pointer (some t)] 82)).alloc (.cells #[.pointer (some ⟨17,82,none⟩),.pointer (some ⟨w.heap.size,0,none⟩),.int .u64 150] 135)) (by simp);have hlt:5<w.heap.size:=by
  rcases aE 5 w.heap.size with h|h
  ·exact h
  ·simp [World.cell?,lL h] at hg
 have hg2:((w.alloc (.cells #[.pointer (some t)] 82)).alloc (.cells #[.pointer (some ⟨17,82,none⟩),.pointer (some ⟨w.heap.size,0,none⟩),.int .u64 150] 135)).cell? ⟨5,0,none⟩=some (.iface 187 (.agg #[.pointer (some ⟨17,39,none⟩)])):=by
  rw [iv _ _ ⟨5,0,none⟩ (by simp; omega),iv _ _ ⟨5,0,none⟩ hlt]; exact hg
 have htl:t.block<w.heap.size:=by
  rcases aE t.block w.heap.size with h|h
  ·exact h
  ·simp [World.cell?,lL h] at ht0
 have el:=CW ⟨w.heap.size,0,none⟩ t (((w.alloc (.cells #[.pointer (some t)] 82)).alloc (.cells #[.pointer (some ⟨17,82,none⟩),.pointer (some ⟨w.heap.size,0,none⟩),.int .u64 150] 135)).alloc (.cells #[.pointer (some ⟨17,82,none⟩),.pointer (some ⟨w.heap.size,0,none⟩),.int .u64 150] 135)) (by rw [iv _ _ ⟨w.heap.size,0,none⟩ (by simp; omega)]; simp);have st:=Ha t ⟨w.heap.size+1+1+1,0,none⟩ e old ((((w.alloc (.cells #[.pointer (some t)] 82)).alloc (.cells #[.pointer (some ⟨17,82,none⟩),.pointer (some ⟨w.heap.size,0,none⟩),.int .u64 150] 135)).alloc (.cells #[.pointer (some ⟨17,82,none⟩),.pointer (some ⟨w.heap.size,0,none⟩),.int .u64 150] 135)).alloc (.cells #[.pointer (some e)] 80))
  (by rw [World.cell?_alloc_at _ _ _ _ (by simp)]; rfl)
  (by rw [iv _ _ t (by simp; omega),iv _ _ t (by simp; omega),iv _ _ t (by simp; omega),iv _ _ t htl]; exact ht0)
  (by rw [oJ _ _ t (by simp; omega),oJ _ _ t (by simp; omega),oJ _ _ t (by simp; omega),oJ _ _ t (Nat.ne_of_lt htl)]; exact hf0)
 go_enter Tryz.func31,Tryz.ntmps31
 go_wp2
 refine wp_loop_rounds 1 ?_;rw [rounds_succ]
 go_wp2
 go_ret
 exact ⟨rfl,rfl⟩
structure jD (w w':World) (t:Nat):Prop where
 os:w'.os=w.os
 output:w'.output=w.output
 size:w.heap.size<=w'.heap.size
 block:∀k,k<w.heap.size->k≠t->w'.heap[k]? = w.heap[k]?
 frz:∀a,a.block<w.heap.size->w'.frozen? a=w.frozen? a
theorem jD.one (w:World) (v:Array Value) (T:TypeId) (t:Nat):jD w (w.alloc (.cells v T)) t:=
 ⟨rfl,rfl,by simp,fun k hk _=>cf _ _ _ hk,fun a _=>Hk _ _ _ _⟩
theorem jD.set (w:World) (t:Nat) (v:Value):jD w (w.setCell ⟨t,0,none⟩ v) t:=
 ⟨rfl,rfl,by simp [World.setCell],fun k hk hne=>by
  show (w.heap.modify t _)[k]? = _;rw [xd,ab fun h=>hne h.symm],fun a _=>World.frozen?_setCell _ _ _ _⟩
theorem jD.trans {w w' w'':World}{t:Nat}(h:jD w w' t) (k:jD w' w'' t):jD w w'' t:=
 ⟨k.os.trans h.os,k.output.trans h.output,cO h.size k.size,fun i hi hn=>(k.block i (eJ hi h.size) hn).trans (h.block i hi hn),
  fun a ha=>(k.frz a (eJ ha h.size)).trans (h.frz a ha)⟩
theorem jD.cell {w w':World}{t:Nat}(h:jD w w' t){k:Nat}(o:Nat) (hk:k<w.heap.size) (hn:k≠t):w'.cell? ⟨k,o,none⟩=w.cell? ⟨k,o,none⟩:=
 dw (w:=w) (a:=⟨k,o,none⟩) (h.block k hk hn)
def Eh (c:Cx):Prop:=Im c 5 0 (.iface 187 (.agg #[.pointer (some ⟨17,39,none⟩)]))
theorem Eh.m {c c':Cx}(h:Eh c) (k:c.le c':=by repeat (first|assumption|refine Cx.le.trans ?_ (by assumption))):Eh c':=Im.mono h k
def FP (c:Cx) (u:Value) (e:Er):Prop:=match e with
 | .fault i e=>∃b w,u= .pointer (some ⟨b,0,none⟩)/\Im c b 0 (.int .i64 i)/\Im c b 1 w/\RE 352 80 c w e
 | _=>u= .pointer none
theorem FP.lw {c c':Cx}{u:Value}{e:Er}(h:FP c u e) (k:c.lw c'):FP c' u e:=by
 cases e with
 | fault i e=>obtain ⟨b,w,h1,h2,h3,h4⟩:=h; exact ⟨b,w,h1,h2.lw k,h3.lw k,h4.lw k⟩
 | nil=>exact h
 | sent g=>exact h
theorem FP.mono {c c':Cx}{u:Value}{e:Er}(h:FP c u e) (k:c.le c'):FP c' u e:=h.lw k.lw
theorem FP.m {c c':Cx}{u:Value}{e:Er}(h:FP c u e) (k:c.le c':=by repeat (first|assumption|refine Cx.le.trans ?_ (by assumption))):FP c' u e:=h.mono k
def flt (e:Er):Option (Int×Er):=match e with
 | .fault i e=>some (i,e)
 | _=>none
theorem FP.get {c:Cx}{u:Value}{e:Er}{y:Int×Er}(h:FP c u e) (hy:flt e=some y):∃b w,u= .pointer (some ⟨b,0,none⟩)/\(∀j x,([.int .i64 y.1,w]:List Value)[j]? = some x->Im c b (0+j) x)/\RE 352 80 c w y.2:=by
 cases e with
 | fault i e=>
  cases hy;obtain ⟨b,w,rfl,h2,h3,h4⟩:=h;refine ⟨b,w,rfl,fun j x hx=>?_,h4⟩
  match j,hx with
  | 0,hx=>cases hx; exact h2
  | 1,hx=>cases hx; exact h3
  | j+2,hx=>simp at hx
 | nil=>cases hy
 | sent g=>cases hy
def wJ (p0:Er):Option Bool:=match p0 with
 | .nil=>some false
 | .fault _ _=>some true
 | .sent _=>none
theorem I1 (e:Addr) (tb:Nat) (w:World) (hg:w.cell? ⟨5,0,none⟩=some (.iface 187 (.agg #[.pointer (some ⟨17,39,none⟩)]))) (ht0:w.heap[tb]? = some (.cells #[.pointer none] 80 (0,0))):
  Calls Tryz.prog 31 #[.iface 80 (.pointer (some e)),.iface 82 (.pointer (some ⟨tb,0,none⟩))] w fun ev w'=>ev= .returned (.bool true)/\w'.heap[tb]? = some (.cells #[.pointer (some e)] 80 (0,0))/\jD w w' tb:=by
 have hlt:tb<w.heap.size:=(Array.getElem?_eq_some_iff.1 ht0).1;have h1:∀o,w.cell? ⟨tb,o,none⟩=(#[Value.pointer none]:Array Value)[o]? :=fun o=>by unfold World.cell?; rw [ht0]; rfl
 refine (Ky e ⟨tb,0,none⟩ (.pointer none) w hg (by rw [h1]; rfl) (by unfold World.frozen?; rw [ht0]; rfl)).mono ?_;rintro ev w' ⟨rfl,rfl⟩;have hk:=((((jD.one w #[.pointer (some ⟨tb,0,none⟩)] 82 tb).trans (jD.one _ #[.pointer (some ⟨17,82,none⟩),.pointer (some ⟨w.heap.size,0,none⟩),.int .u64 150] 135 tb)).trans
  (jD.one _ #[.pointer (some ⟨17,82,none⟩),.pointer (some ⟨w.heap.size,0,none⟩),.int .u64 150] 135 tb)).trans (jD.one _ #[.pointer (some e)] 80 tb))
 refine ⟨rfl,?_,hk.trans (jD.set _ _ _)⟩;unfold World.setCell;rw [xd,ae rfl,cf _ _ _ (by simp; omega),cf _ _ _ (by simp; omega),cf _ _ _ (by simp; omega),cf _ _ _ hlt,ht0];rfl
set_option maxRecDepth 1000000 in
theorem Kx (t:Value) (w:World):Calls Tryz.prog 31 #[.nilIface,t] w fun ev w'=>ev= .returned (.bool false)/\w'=w:=by
 go_enter Tryz.func31,Tryz.ntmps31
 go_wp2
 go_ret
 exact ⟨rfl,rfl⟩
theorem B0 {c0:Cx}{G:Gm}{F:List En}{v1:Value}{b:Nat}(O0:Own c0 G (⟨.pointer (some ⟨b,0,none⟩),80,[.pointer none],0⟩::F)) (hU:Eh c0) (p0:Er) (h1:RE 352 80 c0 v1 p0){r:Bool}(H:wJ p0=some r):
  Calls Tryz.prog 31 #[v1,.iface 82 (.pointer (some ⟨b,0,none⟩))] c0.w (aI c0 fun c v=>∃u,Own c G (⟨.pointer (some ⟨b,0,none⟩),80,[u],0⟩::F)/\v= .bool r/\FP c u p0):=by
 obtain ⟨hh,hA⟩:=O0.on 0 rfl b rfl
 cases p0 with
 | nil=>
  cases H
  cases h1
  refine (Kx _ c0.w).mono ?_
  rintro e w' ⟨rfl,rfl⟩
  exact ⟨_,c0,rfl,rfl,Cx.le.refl _,_,O0,rfl,rfl⟩
 | sent g=>cases H
 | fault i e=>
  cases H
  obtain ⟨fb,u,rfl,h2,h3,h4⟩:=h1
  refine (I1 ⟨fb,0,none⟩ b c0.w hU.cell hh).mono ?_
  rintro e w' ⟨rfl,ht,hk⟩
  have hne:∀k o,¬c0.A k o->k≠b:=fun k o h q=>h (by rw [q]; exact (hA o).2 (dk _))
  have hb:c0.but (fun k=>k=b) ⟨w',c0.A,c0.t⟩:=⟨⟨hk.os,hk.output,hk.size,fun k o h q=>⟨hk.cell o h (hne k o q),q⟩,fun k h q=>hk.block k h (hne k 0 (q 0)),fun a h _=>hk.frz a h,fun _ _ _ h=>h⟩,rfl,fun k h q=>⟨hk.block k h q,fun _=>wB⟩⟩
  refine ⟨_,⟨w',c0.A,c0.t⟩,rfl,rfl,hb.le,.pointer (some ⟨fb,0,none⟩),O0.set 0 rfl hb (fun k h=>by rw [h]; rfl) (fun b' hb'=>?_) (fun b' h=> .inl h),rfl,fb,u,rfl,h2.mono hb.le,h3.mono hb.le,h4.mono hb.le⟩
  simp only [blk,aK] at hb'
  subst hb'
  exact ⟨ht,hA⟩
def BH (gl:List Nat):Er->Bool
 | .nil=>true
 | .sent g=>gl.contains g
 | .fault _ e=>BH gl e
def vm (k:Nat):Er->Bool
 | .nil=>false
 | .sent g=>g==k
 | .fault _ e=>vm k e
def qK:Er->Nat
 | .nil=>0
 | .sent _=>0
 | .fault _ e=>qK e+1
def qJ (gl:List Nat) (p0 p1:Er):Option Bool:=match p1 with
 | .sent k=>if gl.contains k=true/\BH gl p0=true then some (vm k p0) else none
 | _=>none
def vk (p0 p1:Er):Option Bool:=qJ [0,1] p0 p1
theorem EC (v:Value) (w:World):(Extern.ReflectliteType.typeOf #[.iface 352 v]).run Tryz.prog w= .ok (.iface 187 (.agg #[.pointer (some ⟨17,352,none⟩)])) w:=by kernel_rfl
theorem yI (w:World):((Extern.ReflectliteType.method fun t=>do Extern.Rtype.noPackHeld "Comparable" t; pure (.bool (<-typeInfo t).comparable)) #[.agg #[.pointer (some ⟨17,352,none⟩)]]).run Tryz.prog w= .ok (.bool true) w:=by kernel_rfl
theorem tC (v:Value) (w:World):(Go.method 481 187 v "Comparable").run Tryz.prog w= .ok (348,v) w:=by kernel_rfl
theorem Iw:(Tryz.prog.info? 352).map (·.comparable)=some true:=by kernel_rfl
theorem Iv:(Tryz.prog.info? 354).map (·.size)=some 1:=by kernel_rfl
theorem Gu (v:Value) (xT:TypeId) (w:World):(Instr.typeAssert (.iface 352 v) xT 198 true).run Tryz.prog w= .ok (.tuple #[.nilIface,.bool false]) w:=run_typeAssert_lacksB Tryz.underlying198 (by kernel_rfl) (by kernel_rfl) v xT w
theorem Ai (v:Value) (xT:TypeId) (w:World):(Instr.typeAssert (.iface 352 v) xT 194 true).run Tryz.prog w= .ok (.tuple #[.nilIface,.bool false]) w:=run_typeAssert_lacksB Tryz.underlying194 (by kernel_rfl) (by kernel_rfl) v xT w
theorem yG (v:Value) (xT:TypeId) (w:World):(Instr.typeAssert (.iface 352 v) xT 195 true).run Tryz.prog w= .ok (.tuple #[.nilIface,.bool false]) w:=run_typeAssert_lacksB Tryz.underlying195 (by kernel_rfl) (by kernel_rfl) v xT w
theorem Gt (v:Value) (xT:TypeId) (w:World):(Instr.typeAssert (.iface 80 v) xT 198 true).run Tryz.prog w= .ok (.tuple #[.nilIface,.bool false]) w:=run_typeAssert_lacksB Tryz.underlying198 (by kernel_rfl) (by kernel_rfl) v xT w
theorem yH (v:Value) (xT:TypeId) (w:World):(Instr.typeAssert (.iface 80 v) xT 194 true).run Tryz.prog w= .ok (.tuple #[.iface 80 v,.bool true]) w:=run_typeAssert_hasB Tryz.underlying194 (by kernel_rfl) v xT w
theorem wR (v:Value) (w:World):(Go.method 481 80 v "Unwrap").run Tryz.prog w= .ok (340,v) w:=by kernel_rfl
open Classical in
noncomputable def xS (c:Cx) (E:Value):Nat:=if h:∃p,RE 352 80 c E p then qK h.choose else 0
theorem xR {c:Cx}:∀{p p':Er}{E:Value},RE 352 80 c E p->RE 352 80 c E p'->qK p=qK p'
 | .nil,.nil,_,_,_=>rfl
 | .nil,.sent _,_,h,h'=>rfl
 | .nil,.fault _ _,_,h,h'=>by
  obtain rfl:=h;obtain ⟨b,u,e,_⟩:=h';cases e
 | .sent _,.nil,_,_,_=>rfl
 | .sent _,.sent _,_,_,_=>rfl
 | .sent _,.fault _ _,_,h,h'=>by
  obtain ⟨a,rfl,_⟩:=h;obtain ⟨b,u,e,_⟩:=h';cases e
 | .fault _ _,.nil,_,h,h'=>by
  obtain rfl:=h';obtain ⟨b,u,e,_⟩:=h;cases e
 | .fault _ _,.sent _,_,h,h'=>by
  obtain ⟨a,rfl,_⟩:=h';obtain ⟨b,u,e,_⟩:=h;cases e
 | .fault _ p,.fault _ p',_,h,h'=>by
  obtain ⟨b,u,rfl,_,h1,h2⟩:=h;obtain ⟨b',u',e,_,h1',h2'⟩:=h';cases e;have:=h1.cell.symm.trans h1'.cell;cases this;show qK p+1=qK p'+1;rw [xR h2 h2']
theorem zx {c:Cx}{E:Value}{p:Er}(h:RE 352 80 c E p):xS c E=qK p:=by
 unfold xS;rw [we ⟨p,h⟩];exact xR (Exists.choose_spec ⟨p,h⟩) h
set_option maxRecDepth 1000000 in
theorem Bt {c:Cx}{gl:List Nat}(hG:Gl gl c) (b:Addr) (k:Nat) (hk:k∈gl) (h2:RE 352 80 c (.iface 352 (.pointer (some b))) (.sent k)) (E:Value) (p0:Er) (h1:RE 352 80 c E p0) (hn:p0.isNil=false) (ha:BH gl p0=true):
  Calls Tryz.prog 71 #[E,.iface 352 (.pointer (some b)),.bool true] c.w fun e w'=>e= .returned (.bool (vm k p0))/\w'=c.w:=by
 obtain ⟨i,hi,hcmp⟩:=Option.map_eq_some_iff.1 Iw;obtain ⟨j,hj,hjs⟩:=Option.map_eq_some_iff.1 Iv;have nE:=Gu;have uE:=Ai;have vE:=yG;have nW:=Gt;have uW:=yH;have mU:=wR;obtain ⟨b',eb,hkm,hkf⟩:=h2;cases eb;obtain ⟨W,hW⟩:∃W,Hid (W=c.w):=⟨_,rfl⟩;rw [<-hW.out]
 go_enter Tryz.func71,Tryz.ntmps71
 go_wp2
 go_loopw [0] (fun E' wl=>wl=W/\∃p,RE 352 80 c E' p/\p.isNil=false/\BH gl p=true/\vm k p0=vm k p) (fun E' _=>xS c E')
 case atStart=>exact ⟨rfl,p0,h1,hn,ha,rfl⟩
 case round=>
  obtain ⟨rfl,p,hp,hpn,hpa,hiff⟩:=hrel
  cases p with
  | nil=>cases hpn
  | sent g=>
   obtain ⟨a,rfl,hgm,hgf⟩:=hp;by_cases hab:a=b
   ·subst hab;have hgk:g=k:=Hs fun hne=>hG.2 g k (List.contains_iff_mem.1 hpa) hk hne a hgm hkm;have heq:=run_eql_iface_ptr_same (P:=Tryz.prog) wr a Tryz.underlying39 Tryz.underlying352 hi hcmp hj
    go_wp2
    go_ret
    exact ⟨by rw [hiff]; simp [vm,hgk],rfl⟩
   ·obtain ⟨ca,ta,hca⟩:=hgf.blk;obtain ⟨cb,tb,hcb⟩:=hkf.blk;rw [<-hW.out] at hca hcb;have hgk:¬g=k:=fun e=>by
     subst e;have:=hgm.cell.symm.trans hkm.cell;cases this;exact hab rfl
    have heq:=run_eql_iface_ptr_other (P:=Tryz.prog) wr Tryz.underlying39 Tryz.underlying352 hi hcmp hj (by rw [hjs]; decide) hab hca hcb
    go_wp2
    go_ret
    exact ⟨by rw [hiff]; simp [vm,hgk],rfl⟩
  | fault n e1=>
   obtain ⟨fb,u,rfl,hi0,hi1,hre⟩:=hp;have hcell:=hi1.cell;rw [<-hW.out] at hcell;have hty:=run_eql_iface_types (P:=Tryz.prog) 80 352 (.pointer (some ⟨fb,0,none⟩)) (.pointer (some b)) Tryz.underlying39 (by decide) wr;have hlen:=zx hre;have hlen0:=zx (c:=c) (E:= .iface 80 (.pointer (some ⟨fb,0,none⟩))) (p:= .fault n e1) ⟨fb,u,rfl,hi0,hi1,hre⟩;have HC:Hid (RE 352 80 c u e1):=hre
   cases e1 with
   | nil=>
    obtain rfl:=hre
    go_wp2
    go_ret
    exact ⟨by rw [hiff]; simp [vm],rfl⟩
   | sent g=>
    obtain ⟨a,rfl,_⟩:=hre
    go_wp2
    go_roundw
    case rel=>exact ⟨trivial,_,HC.out,rfl,hpa,hiff⟩
    case measure=>
     show xS c (.iface 352 (.pointer (some a)))<_;rw [hlen,hlen0]; simp [qK]
   | fault n2 e2=>
    obtain ⟨fb2,u2,rfl,_⟩:=hre
    go_wp2
    go_roundw
    case rel=>exact ⟨trivial,_,HC.out,rfl,hpa,hiff⟩
    case measure=>
     show xS c (.iface 80 (.pointer (some ⟨fb2,0,none⟩)))<_;rw [hlen,hlen0]; simp [qK]
set_option maxRecDepth 1000000 in
theorem Lg {c:Cx}{gl:List Nat}(hG:Gl gl c) (b:Addr) (k:Nat) (hk:k∈gl) (h2:RE 352 80 c (.iface 352 (.pointer (some b))) (.sent k)) (E:Value) (p0:Er) (h1:RE 352 80 c E p0) (ha:BH gl p0=true):
  Calls Tryz.prog 32 #[E,.iface 352 (.pointer (some b))] c.w fun e w'=>e= .returned (.bool (vm k p0))/\w'=c.w:=by
 have h8:= @cW Tryz.prog 70 _ Extern.ReflectliteType.typeOf Tryz.func70 (by kernel_rfl) (by kernel_rfl) (by kernel_rfl) (by kernel_rfl);have h320:= @cW Tryz.prog 348 _ (Extern.ReflectliteType.method fun t=>do Extern.Rtype.noPackHeld "Comparable" t; pure (.bool (<-typeInfo t).comparable)) Tryz.func348 (by kernel_rfl) (by kernel_rfl) (by kernel_rfl) (by kernel_rfl);have h32:∀w,(callFunc 348 #[.agg #[.pointer (some ⟨17,352,none⟩)]]).run Tryz.prog w= .ok (.value (.bool true)) w:=fun w=>by rw [h320,yI]; rfl
 clear h320
 have tT:=EC;have mR:=tC
 cases p0 with
 | nil=>
  obtain rfl:=h1;have hn:=run_eql_iface_nil_left (P:=Tryz.prog) c.w 352 (.pointer (some b)) Tryz.underlying39
  clear h2 hG
  go_enter Tryz.func32,Tryz.ntmps32
  go_wp2
  go_ret
  exact ⟨rfl,rfl⟩
 | sent g=>
  have hcon:=Bt hG b k hk h2 E (.sent g) h1 rfl ha;obtain ⟨a,rfl,_⟩:=h1
  clear h2 hG
  go_enter Tryz.func32,Tryz.ntmps32
  go_wp2_with (first|(go_at_call 71; refine hcon.mono ?_; rintro e w' ⟨rfl,rfl⟩)|go_in)
  go_ret
  exact ⟨rfl,rfl⟩
 | fault i e=>
  have hcon:=Bt hG b k hk h2 E (.fault i e) h1 rfl ha;obtain ⟨fb,u,rfl,_⟩:=h1
  clear h2 hG
  go_enter Tryz.func32,Tryz.ntmps32
  go_wp2_with (first|(go_at_call 71; refine hcon.mono ?_; rintro e w' ⟨rfl,rfl⟩)|go_in)
  go_ret
  exact ⟨rfl,rfl⟩
theorem Ax {gl:List Nat}{c0:Cx}{G:Gm}{F:List En}{v1 v2:Value}(O0:Own c0 G F) (hG:Gl gl c0) (p0 p1:Er) (h1:RE 352 80 c0 v1 p0) (h2:RE 352 80 c0 v2 p1){r:Bool}(H:qJ gl p0 p1=some r): Calls Tryz.prog 32 #[v1,v2] c0.w (aI c0 fun c v=>Own c G F/\v= .bool r):=by
 unfold qJ at H;split at H
 ·rename_i k;split at H
  ·rename_i hh;obtain rfl:=aL H;obtain ⟨b,rfl,h3⟩:=id h2;refine (Lg hG b k (List.contains_iff_mem.1 hh.1) h2 v1 p0 h1 hh.2).mono ?_;rintro e w' ⟨rfl,rfl⟩;exact ⟨_,c0,rfl,rfl,Cx.le.refl _,O0,rfl⟩
  ·cases H
 ·cases H
theorem Ay {c0:Cx}{G:Gm}{F:List En}{v1 v2:Value}(O0:Own c0 G F) (hG:Gl [0,1] c0) (p0 p1:Er) (h1:RE 352 80 c0 v1 p0) (h2:RE 352 80 c0 v2 p1){r:Bool}(H:vk p0 p1=some r):
 Calls Tryz.prog 32 #[v1,v2] c0.w (aI c0 fun c v=>Own c G F/\v= .bool r):=Ax O0 hG p0 p1 h1 h2 H
end Go.Proofs.YtkgjnbiiiifoaaaGreatDoor
namespace Go.Proofs.YtkgjnbiiiifoaaaGreatDoor
open Go Go.Lt
set_option maxRecDepth 10000
set_option linter.unusedVariables false
attribute [local irreducible] W WL AC
open Tryz
variable {c0:Cx}{G:Gm}{F:List En}{sg:Sto}{v1 v2 v3 v4 v5 v6 v7 v8 v9 v10 v11 v12 v13 v14 v15 v16 v17 v18 v19 v20 v21 v22 v23 v24 v25 v26 v27 v28 v29 v30 v31 v32 v33 v34 v35 v36 v37 v38 v39 v40 v41 v42 v43 v44 v45 v46 v47 v48 v49 v50 v51 v52 v53 v54 v55 v56 v57 v58 v59 v60:Value}
def sx (sg:Sto) (p0:ByteArray):Option (Sto×aH×Er):=
 if decide ((qA p0)>1048576) then
 none
 else
 (some (sg.add_snap_reader (⟨p0,0,(⟨0,0,([]:List ah),(⟨0,0,false⟩:ai),false⟩:aH)⟩:ck))).bind fun b=>
 (mO b (some sg.snap_reader.length)).bind fun a=>
 (wJ a.2).bind fun e=>
 (bw e ((flt a.2).bind fun f=>
 (vk f.2 (Er.sent 1)).bind fun g=>
 some g)).bind fun c=>
 if c then
 none
 else
 if (!a.2.isNil)=true then
 none
 else
 (a.1.snap_reader[sg.snap_reader.length]?).bind fun d=>
 some (a.1,d.v,Er.nil)
theorem BV (O0:Own c0 G F) (R0:Rel c0 sg G) (hG:Gl [0,1] c0) (hU:Eh c0) (hT:Et c0) (f:ByteArray){r:Sto×aH×Er}(H:sx sg f=some r): RU 15 #[.string f] c0 fun c v=>∃y1 y2,∃G_:Gm,Own c G_ F/\Rel c r.1 G_/\v= .tuple #[.agg #[I r.2.1.Wide,I r.2.1.High,y1,I r.2.1.At.Row,I r.2.1.At.Col,B r.2.1.At.Pending,B r.2.1.Auto],y2]/\Sl aN c y1 r.2.1.Lines/\RE 352 80 c y2 r.2.2:=by
 unfold sx at H;refine en func15 rfl rfl<|sr<|me (al 31 [I 0,I 0,Y,I 0,I 0,B false,B false] O0) ?_;rintro v4 c3 l3 ⟨b1,rfl,O2⟩;refine va (.nilIface)<|Rx<|RB (.string f)<|vr (I (qA f)) (rx (by kernel_rfl) (uO (ty:=3) u_9 _))<|Rj ((qA f)>1048576)<|RF H (fun h5 H=>?_) (fun h5 H=>?_)
 ·cases H
 refine RG<|RB (.string f)<|va (.agg #[.string f,I 0,I 0,I 0,Y,I 0,I 0,B false,B false]) ?_;have h7:OA aN c3 Y [] []:=OA.nil (ba _);have O6:=O2.addHole (e:=es false aN Y 56 [] ([]:List ah)) rfl;refine me (al 78 [.string f,I 0,I 0,I 0,(Y),I 0,I 0,B false,B false] O6) ?_;rintro v11 n2 D ⟨d,rfl,O9⟩;have k0:=O9.sD 3 [0,1,2];refine bn H fun j0 z0 H=>?_;obtain ⟨u0,l2,a1,p1,T,l0,P,s2,t2,m2⟩:=Rel.new_snap_reader (E:=[(Eb d 78 [.string f,I 0,I 0,I 0,(Y),I 0,I 0,B false,B false]),es false aN Y 56 [] ([]:List ah)]) (F:=(Eb b1 31 [I 0,I 0,Y,I 0,I 0,B false,B false])::F) (x:=(⟨f,0,(⟨0,0,([]:List ah),(⟨0,0,false⟩:ai),false⟩:aH)⟩:ck)) (b:=d) k0 (R0.mono (l3.trans D)) (fun c_ hle_=>⟨d,(Y),[],rfl,rfl,((h7.mono D).mono hle_)⟩);rw [aL z0] at P;refine WL.gh a1.1 ?_;have c1:Pt 6 u0 (Q d) (some sg.snap_reader.length):=⟨d,rfl,T⟩;refine va (Q d)<|wln<|RB (Q d)<|bn H fun i d1 H=>cl (vt l0 P hT.m (some sg.snap_reader.length) c1 d1) ?_;rintro v26 o2 s1 ⟨_,M,m0,R,rfl,U⟩;refine va v26<|RO<|me (al 80 [.pointer none] m0) ?_;rintro v37 v0 b0 ⟨q,rfl,o0⟩;refine Rx<|W.seq<|bn H fun g0 e1 H=>bn H fun f0 X H=>W.join (Jn v0 fun c l=>∃v40,Own c M ((Eb q 80 [v40])::(Eb b1 31 [I 0,I 0,Y,I 0,I 0,B false,B false])::F)/\l= [(2,Q b1),(4,Q d),(5,v26),(6,Q q),(27,B f0)]/\FP c v40 i.2) ?_ ?_
 ·clear H;refine rD [2,4,9] (Kp G0 []) o0 ?_;intro w0 t1 q0;have x2:Kp G0 [] w0:=Kp.nil0;refine ta 0 v26<|ta 1 (.iface 82 (Q q))<|o1 2 (gc 2 (B0 q0 hU.m i.2 U.m e1) ?_);rintro v47 x0 u1 ⟨v44,j,rfl,y⟩;refine ⟨.inl rfl,?_⟩;rcases bo g0 with h|h
  ·have g:=anT h X;refine bn g fun h0 f1 g=>bn g fun i0 g1 g=>AC.takeb 3 h rfl (by kernel_rfl) (by kernel_rfl) (fun c' A=>(by kernel_rfl)) ?_;obtain ⟨v53,Z⟩:=(hG.mono (l3.trans (D.trans (p1.trans (s1.trans (b0.trans (t1.trans u1))))))).get 1 (by decide);refine tx 8 (fun c' A=>l1 tB Z.m.im)<|o1 4 (gl 4 (le1 0 underlying80 (j.on 0 rfl)) ?_);obtain ⟨s,v56,h1,w1,i1⟩:=(y).get f1;subst h1;refine ta 5 (Q s)<|ta 6 (Qo s (0+1))<|tx 7 (fun c' A=>l1 tB ((mm w1) 1 _ rfl))<|o1 9 (gc 9 (Ay j (hG.m.le (by decide)) h0.2 (Er.sent 1) i1 Z g1) ?_);rintro a3 y0 v2 ⟨s0,rfl⟩;refine ⟨.inl rfl,?_⟩;obtain rfl:=si g;exact ta 10 (B i0)<|dn (nrm<|jn y0 ⟨(Q s),s0,rfl,y.m⟩)
  obtain rfl:=anF h X;exact AC.takeb 3 h rfl (by kernel_rfl) (by kernel_rfl) (fun c' A=>(by kernel_rfl)) (tp 8<|tp 4<|tp 5<|tp 6<|tp 7<|tp 9<|ta 10 (B false)<|dn (nrm<|jn x0 ⟨v44,j,rfl,y⟩))
 rintro e_ w_ ⟨p2,q2,_,rfl,v1,rfl,v40,k,rfl,u2⟩;refine nrm<|cn H (fun j1 H=>?_) (fun j1 H=>?_)
 ·cases H
 refine RG<|W.seq<|RB v26<|vr (B (!i.2.isNil)) (by rcases U.m.cs with ⟨t,u⟩|⟨b_,t,u⟩|⟨b_,t,u⟩ <;> (subst t; rw [u]; kernel_rfl))<|RF H (fun k1 H=>?_) (fun k1 H=>?_)
 ·cases H
 refine RG<|sr<|vv (Q d)<|Rs d 2<|bn H fun a m1 H=>?_;obtain ⟨x1,z2,a0,n1⟩:=Rel.open_snap_reader (R.mono (b0.trans v1)) m1 (tm T);refine vx (leN 31 2 [I a.v.Wide,I a.v.High,x1,I a.v.At.Row,I a.v.At.Col,B a.v.At.Pending,B a.v.Auto] (k.gon a0 0 rfl)) ?_;have z:=n1.sl (k.gon a0 1 rfl);obtain ⟨n,o,p,rfl⟩:=(z).form;refine md (sA 31 [I a.v.Wide,I a.v.High,.slice n o p,I a.v.At.Row,I a.v.At.Col,B a.v.At.Pending,B a.v.Auto] 1 k ⟨rfl,rfl,z.one,rfl,rfl,rfl,rfl,trivial⟩) ?_;rintro S w2 N;refine va (.nilIface)<|RD ?_;obtain rfl:=si H;have t0:=N.sD 2 [];exact xA (c:=S) (vs:=[I a.v.Wide,I a.v.High,.slice n o p,I a.v.At.Row,I a.v.At.Col,B a.v.At.Pending,B a.v.Auto]) (v:= .nilIface) rfl (by kernel_rfl) (by kernel_rfl) (by kernel_rfl) (by kernel_rfl) (N.on 1 rfl _ rfl).1 ⟨_,S,rfl,rfl,pt,(.slice n o p),.nilIface,M,t0,R.m,rfl,z.m,rfl⟩
def eR (sg:Sto):Option (Sto×Bool):=
 (ji sg 2 1).bind fun b=>
 if b.2.isNone then
 none
 else
 (dh b.1 b.2).bind fun g=>
 (sw g).bind fun h=>
 (sx b.1 h).bind fun a=>
 (dh a.1 b.2).bind fun i=>
 (um i).bind fun c=>
 (bw a.2.2.isNil (some c.2.isNil)).bind fun d=>
 (bw d (some (a.2.1.Wide==2))).bind fun e=>
 (bw e (some ((c.1.length:Int)==8))).bind fun f=>
 some (a.1,f)
theorem oY (O0:Own c0 G F) (R0:Rel c0 sg G) (hG:Gl [0,1,2,3,4,7] c0) (hU:Eh c0) (hT:Et c0){r:Sto×Bool}(H:eR sg=some r): RU 4 #[] c0 fun c v=>∃G_:Gm,Own c G_ F/\Rel c r.1 G_/\v=B r.2:=by
 unfold eR at H;refine en func4 rfl rfl<|Ru false<|RO<|bn H fun t h1 H=>cl (qM O0 R0 2 1 h1) ?_;rintro v2 c8 l8 ⟨_,G4,O5,R6,a7,rfl,U⟩;refine va v2<|Rx<|RB v2<|vr (B t.2.isNone) (by rcases (U).cs with ⟨b,d⟩|⟨u,b,d⟩ <;> (subst b; rw [d]; kernel_rfl))<|RF H (fun q0 H=>?_) (fun q0 H=>?_)
 ·cases H
 refine RG<|RB v2<|bn H fun q s0 H=>cl (jp O5 R6 t.2 U s0) ?_;rintro v20 u1 e2 ⟨v12,i1,d0,rfl,t0⟩;obtain ⟨v1,v0,f2,e0,u0⟩:=d0.frz 0 rfl t0;refine WL.gh v0 (bn H fun X w0 H=>cl (BU e0 hT.m q u0 w0) ?_);rintro v31 w1 g2 ⟨f0,rfl⟩;refine bn H fun a x0 H=>cl (BV f0 R6.m (hG.m.le (by decide)) hU.m hT.m X x0) ?_;rintro v42 x1 h2 ⟨v33,v35,x,g0,y,rfl,M,y0⟩;refine va (.tuple #[.agg #[I a.2.1.Wide,I a.2.1.High,v33,I a.2.1.At.Row,I a.2.1.At.Col,B a.2.1.At.Pending,B a.2.1.Auto],v35])<|va (.agg #[I a.2.1.Wide,I a.2.1.High,v33,I a.2.1.At.Row,I a.2.1.At.Col,B a.2.1.At.Pending,B a.2.1.Auto])<|va v35<|me (al 31 [I 0,I 0,Y,I 0,I 0,B false,B false] g0) ?_;rintro v46 y1 g1 ⟨E,rfl,h0⟩;obtain ⟨z,A,D,rfl⟩:=((M.mono g1)).form;refine md (sA 31 [I a.2.1.Wide,I a.2.1.High,.slice z A D,I a.2.1.At.Row,I a.2.1.At.Col,B a.2.1.At.Pending,B a.2.1.Auto] 0 h0 ⟨rfl,rfl,M.m.one,rfl,rfl,rfl,rfl,trivial⟩) ?_;rintro z1 i2 i0;refine va v35<|wln<|RB v2<|bn H fun s z0 H=>cl (jp i0 y.m t.2 U.m z0) ?_;rintro n2 b2 j2 ⟨v53,j1,j0,rfl,a1⟩;obtain ⟨c2,c1,k2,k0,b1⟩:=j0.frz 0 rfl a1;refine WL.gh c1 (bn H fun e d1 H=>cl (CO k0 (hG.m.le (by decide)) s b1 d1) ?_);rintro o2 g l2 ⟨k,k1,o,f,rfl,e1,f1⟩;refine va (.tuple #[k,o])<|va k<|va o<|va k<|va o<|Rx<|bn H fun q1 N H=>bn H fun s1 p H=>bn H fun T n H=>W.join (Jn g fun c l=>Own c x (es true (RI .u8) k 5 k1 e.1::es false aN v53 56 j1 s.Lines::(Eb E 31 [I a.2.1.Wide,I a.2.1.High,.slice z A D,I a.2.1.At.Row,I a.2.1.At.Col,B a.2.1.At.Pending,B a.2.1.Auto])::es false aN v12 56 i1 q.Lines::F)/\l= [(0,B T)]) ?_ ?_
 ·clear H;refine Rv v35<|vr (B a.2.2.isNil) (by rcases y0.m.cs with ⟨b,d⟩|⟨u,b,d⟩|⟨u,b,d⟩ <;> (subst b; rw [d]; kernel_rfl)) ?_;rcases bo a.2.2.isNil with h|h
  ·have Z:=anT h N;refine vb h<|wa o<|wn<|vr (B e.2.isNil) (by rcases (f1).cs with ⟨b,d⟩|⟨u,b,d⟩|⟨u,b,d⟩ <;> (subst b; rw [d]; kernel_rfl)) ?_;cases Z;refine Ri e.2.isNil ?_;rcases bo e.2.isNil with i|i
   ·have a0:=anT i p;refine vb i<|wa (Q E)<|wn<|vx (le1 0 u_3 (f.on 2 rfl))<|Rn (a.2.1.Wide==2) ?_;cases a0;refine Ri (a.2.1.Wide==2) ?_;rcases bo (a.2.1.Wide==2) with j|j
    ·have b0:=anT j n;refine vb j<|wa k<|wn<|vx (lnO 3 vN e1)<|Rn ((e.1.length:Int)==8) ?_;cases b0;exact Rk ((e.1.length:Int)==8)<|Ry g ⟨f,rfl⟩
    obtain rfl:=anF j n;exact vb j<|pz<|ps<|Rk false<|Ry g ⟨f,rfl⟩
   obtain rfl:=anF i p;refine vb i<|pz<|ps<|Ri false ?_;have P:false=false:=rfl;obtain rfl:=anF P n;exact vb P<|pz<|ps<|Rk false<|Ry g ⟨f,rfl⟩
  obtain rfl:=anF h N;refine vb h<|pz<|Ri false ?_;have R:false=false:=rfl;obtain rfl:=anF R p;refine vb R<|pz<|ps<|Ri false ?_;have S:false=false:=rfl;obtain rfl:=anF S n;exact vb S<|pz<|ps<|Rk false<|Ry g ⟨f,rfl⟩
 rintro e_ w_ ⟨p0,d2,_,rfl,m2,rfl,l0,rfl⟩;refine nrm<|W.ret ?_;cases H;have m0:=l0.sD 4 [];exact Rz p0 ⟨x,m0,y.m,rfl⟩
def jB (sg:Sto) (p0:dZ) (p1:List aJ):Option (Sto×aH):=
 (ji sg (w64 (1+(w64 ((IntKind.u64.wrap p0.W).tmod 10)))) (w64 (1+(w64 ((IntKind.u64.wrap p0.H).tmod 6))))).bind fun a=>
 (dJ a.1 a.2 p1).bind fun b=>
 (dh b.1 a.2).bind fun c=>
 some (b.1,c)
theorem tF (P:Own c0 G F) (T:Rel c0 sg G) (hG:Gl [3,4,7] c0) (b:dZ) (n:List aJ){r:Sto×aH}(U:Sl cp c0 v1 n) (H:jB sg b n=some r): RU 6 #[.agg #[I b.W,I b.H],v1] c0 fun c v=>∃o N,∃G_:Gm,Own c G_ (es true aN o 56 N r.2.Lines::F)/\Rel c r.1 G_/\v= .agg #[I r.2.Wide,I r.2.High,o,I r.2.At.Row,I r.2.At.Col,B r.2.At.Pending,B r.2.Auto]/\OA aN c o N r.2.Lines:=by
 unfold jB at H;refine en func6 rfl rfl<|sr<|me (bx 23 [I b.W,I b.H] P) ?_;rintro v7 c6 l6 ⟨y,rfl,R,E⟩;refine me (al 31 [I 0,I 0,Y,I 0,I 0,B false,B false] R) ?_;rintro v11 b0 h0 ⟨b8,rfl,S⟩;refine wln<|RB (Q y)<|vx (l1 u_3 ((mm E) 0 _ rfl))<|va (.int .u64 (IntKind.u64.wrap b.W))<|va (.int .u64 ((IntKind.u64.wrap b.W).tmod 10))<|Rt ((IntKind.u64.wrap b.W).tmod 10)<|Rt (1+(w64 ((IntKind.u64.wrap b.W).tmod 10)))<|Rs y (0+1)<|vx (l1 u_3 ((mm E) 1 _ rfl))<|va (.int .u64 (IntKind.u64.wrap b.H))<|va (.int .u64 ((IntKind.u64.wrap b.H).tmod 6))<|Rt ((IntKind.u64.wrap b.H).tmod 6)<|Rt (1+(w64 ((IntKind.u64.wrap b.H).tmod 6)))<|bn H fun h z H=>cl (qM S T.m (w64 (1+(w64 ((IntKind.u64.wrap b.W).tmod 10)))) (w64 (1+(w64 ((IntKind.u64.wrap b.H).tmod 6)))) z) ?_;rintro v13 d0 i0 ⟨_,Z,q,x,a0,rfl,l⟩;refine va v13<|wln<|RB v13<|va v1<|bn H fun X A H=>cl (oF q x (hG.m.le (by decide)) h.2 n l U.m A) ?_;rintro v22 e0 j0 ⟨_,p,s,j,rfl,g0⟩;refine wln<|RB v13<|bn H fun a D H=>cl (jp s j h.2 l.m D) ?_;rintro v39 f0 k0 ⟨v31,M,t,rfl,g⟩;obtain ⟨d,e,f,rfl⟩:=(g).form;refine md (sA 31 [I a.Wide,I a.High,.slice d e f,I a.At.Row,I a.At.Col,B a.At.Pending,B a.Auto] 1 t ⟨rfl,rfl,(g).one,rfl,rfl,rfl,rfl,trivial⟩) ?_;rintro k l0 i;refine RD ?_;cases H;have u:=i.sD 2 [0];exact uj (c:=k) (vs:=[I a.Wide,I a.High,.slice d e f,I a.At.Row,I a.At.Col,B a.At.Pending,B a.Auto]) rfl (by kernel_rfl) (by kernel_rfl) (by kernel_rfl) (i.on 1 rfl _ rfl).1 ⟨_,k,rfl,rfl,pt,(.slice d e f),M,p,u,j.m,rfl,g.m⟩
def jA (p0:aH):Option Bool:=
 (bw (decide (p0.Wide<=60)) (some (decide (p0.High<=60)))).bind fun a=>
 some a
theorem tE (n:Own c0 G F) (a:aH){r:Bool}(s:Sl aN c0 v1 a.Lines) (H:jA a=some r): RU 7 #[.agg #[I a.Wide,I a.High,v1,I a.At.Row,I a.At.Col,B a.At.Pending,B a.Auto]] c0 fun c v=>Own c G F/\v=B r:=by
 unfold jA at H;refine en func7 rfl rfl<|sr ?_;obtain ⟨o,p,q,rfl⟩:=(s).form;refine me (bx 31 [I a.Wide,I a.High,.slice o p q,I a.At.Row,I a.At.Col,B a.At.Pending,B a.Auto] n) ?_;rintro v10 e y ⟨i,rfl,h,m⟩;refine Ri false<|Rx<|bn H fun k d H=>W.join (Jn e fun c l=>Own c G F/\l= [(2,B k)]) ?_ ?_
 ·clear H;refine Rv (Q i)<|vx (l1 u_3 (m 0 _ rfl))<|Rj (a.Wide<=60) ?_;rcases bo (decide (a.Wide<=60)) with b|b
  ·have f:=anT b d;refine vb b<|wa (Qo i (0+1))<|wn<|vx (l1 u_3 (m 1 _ rfl))<|Rm (a.High<=60) ?_;cases f;exact vv (B (decide (a.High<=60)))<|Ry e ⟨h,rfl⟩
  obtain rfl:=anF b d;exact vb b<|pz<|ps<|Rk false<|Ry e ⟨h,rfl⟩
 rintro x z ⟨j,t,_,rfl,u,rfl,g,rfl⟩;refine nrm<|W.ret ?_;cases H;exact Rz j ⟨g,rfl⟩
def fv (sg:Sto) (p0:dZ) (p1:List aJ):Option (Sto×Bool):=
 (eR sg).bind fun f=>
 (orE (!f.2) ((fK p1).bind fun p=>
 some p)).bind fun o=>
 if o then
 (eR f.1).bind fun e=>
 some (e.1,e.2)
 else
 (jB f.1 p0 p1).bind fun a=>
 (jA a.2).bind fun i=>
 if (!i)=true then
 some (a.1,true)
 else
 (jW a.2).bind fun b=>
 (fB a.2).bind fun j=>
 (orE (!(b.2==j)) (some (!b.2))).bind fun g=>
 if g then
 (fB a.2).bind fun k=>
 some (a.1,b.2==k)
 else
 (ji a.1 a.2.Wide a.2.High).bind fun c=>
 (dJ c.1 c.2 b.1).bind fun d=>
 (bw d.2.isNil ((dh d.1 c.2).bind fun l=>
 (gi a.2).bind fun m=>
 (gj l m).bind fun n=>
 some n)).bind fun h=>
 some (d.1,h)
theorem qO (O0:Own c0 G F) (R0:Rel c0 sg G) (hG:Gl [0,1,2,3,4,6,7] c0) (hU:Eh c0) (hT:Et c0) (M:dZ) (p1:List aJ){r:Sto×Bool}(h2:Sl cp c0 v1 p1) (H:fv sg M p1=some r): RU 3 #[.agg #[I M.W,I M.H],v1] c0 fun c v=>∃G_:Gm,Own c G_ F/\Rel c r.1 G_/\v=B r.2:=by
 unfold fv at H;refine en func3 rfl rfl<|sr<|me (bx 23 [I M.W,I M.H] O0) ?_;rintro v7 c6 l6 ⟨b3,rfl,O4,m5⟩;refine Ri false<|Rx<|W.seq<|bn H fun w0 h8 H=>bn H fun k4 h9 H=>W.join (Jn c6 fun c l=>∃G_,Own c G_ F/\l= [(1,v1),(2,Q b3),(14,B k4)]/\Rel c w0.1 G_) ?_ ?_
 ·clear H;refine W.region<|cl (oY O4 R0.m (hG.m.le (by decide)) hU.m hT.m h8) ?_;rintro v15 f4 p6 ⟨b1,c1,g1,rfl⟩;refine Ri (!w0.2) ?_;rcases bo (!w0.2) with p|p
  ·obtain rfl:=orT p h9;exact vb p<|pz<|Ri true<|Ry f4 ⟨b1,c1,rfl,g1⟩
  have R:=orF p h9;refine vb p<|wa v1<|wn<|bn R fun d5 m4 R=>cl (rR c1 p1 h2.m m4) ?_;rintro v24 g4 q6 ⟨y3,rfl⟩;obtain rfl:=si R;exact Ri d5<|Ry g4 ⟨b1,y3,rfl,g1.m⟩
 rintro e_ w_ ⟨g6,n6,_,rfl,r6,rfl,f6,d1,rfl,h1⟩;refine nrm<|cn H (fun o4 H=>?_) (fun o4 H=>?_)
 ·refine sr<|bn H fun s3 p4 H=>cl (oY d1 h1 (hG.m.le (by decide)) hU.m hT.m p4) ?_;rintro v38 h4 s6 ⟨w3,z3,e4,rfl⟩;refine Ri s3.2<|RD<|thr ?_;obtain rfl:=si H;exact Rz h4 ⟨w3,z3,e4,rfl⟩
 refine RG<|sr<|vx (lN 23 (mm m5))<|va v1<|bn H fun a q4 H=>cl (tF d1 h1 (hG.m.le (by decide)) M p1 h2.m q4) ?_;rintro v48 h6 t6 ⟨v40,k1,P,a4,d0,rfl,j⟩;refine me (al 31 [I 0,I 0,Y,I 0,I 0,B false,B false] a4) ?_;rintro v52 i6 o ⟨g,rfl,b4⟩;obtain ⟨d,e,f,rfl⟩:=((j.mono o)).form;refine md (sA 31 [I a.2.Wide,I a.2.High,.slice d e f,I a.2.At.Row,I a.2.At.Col,B a.2.At.Pending,B a.2.Auto] 0 b4 ⟨rfl,rfl,j.m.one,rfl,rfl,rfl,rfl,trivial⟩) ?_;rintro j6 s e1;refine Rx<|sr<|vx (leN 31 0 [I a.2.Wide,I a.2.High,.slice d e f,I a.2.At.Row,I a.2.At.Col,B a.2.At.Pending,B a.2.Auto] (e1.on 0 rfl)) ?_;obtain ⟨k6,s4,D,c4,r4⟩:=e1.frz 1 rfl (j.mono (o.trans s));refine WL.gh s4 (bn H fun t3 t4 H=>cl (tE c4 a.2 r4 t4) ?_);rintro v6 i4 E ⟨A,rfl⟩;refine Ri (!t3)<|RF H (fun u4 H=>?_) (fun u4 H=>?_)
 ·refine Ru true<|RD<|thr ?_;obtain rfl:=si H;have d4:=A.sD 2 [];exact Rz i4 ⟨P,d4,d0.m,rfl⟩
 refine RG<|sr<|vx (leN 31 0 [I a.2.Wide,I a.2.High,.slice d e f,I a.2.At.Row,I a.2.At.Col,B a.2.At.Pending,B a.2.Auto] (A.on 0 rfl)) ?_;have v4:=A.slf 1 rfl (j.mono (o.trans (s.trans (D.trans E))));refine bn H fun b w4 H=>cl (Ar A (hG.m.le (by decide)) a.2 v4 w4) ?_;rintro w6 j4 s0 ⟨k,m1,b0,rfl,x4⟩;refine va (.tuple #[k,B b.2])<|va k<|Ri b.2<|va k<|Ri b.2<|Rx<|W.seq<|bn H fun v0 y4 H=>bn H fun m2 j1 H=>W.join (Jn j4 fun c l=>Own c P (es true cp k 52 m1 b.1::(Eb g 31 [I a.2.Wide,I a.2.High,.slice d e f,I a.2.At.Row,I a.2.At.Col,B a.2.At.Pending,B a.2.Auto])::es false aN (.slice d e f) 56 k1 a.2.Lines::F)/\l= [(5,Q g),(6,k),(7,B b.2),(34,B m2)]) ?_ ?_
 ·clear H;refine W.region<|Ri b.2<|vx (leN 31 0 [I a.2.Wide,I a.2.High,.slice d e f,I a.2.At.Row,I a.2.At.Col,B a.2.At.Pending,B a.2.Auto] (b0.on 1 rfl)) ?_;have z4:=b0.slf 2 rfl (j.mono (o.trans (s.trans (D.trans (E.trans s0)))));refine cl (oI b0 a.2 z4 y4) ?_;rintro x6 i1 u6 ⟨f1,rfl⟩;refine Ri (!(b.2==v0)) ?_;rcases bo (!(b.2==v0)) with q|q
  ·obtain rfl:=orT q j1;exact vb q<|pz<|Ri true<|Ry i1 ⟨f1,rfl⟩
  have x3:=orF q j1;refine vb q<|Rn b.2<|Rn (!b.2) ?_;obtain rfl:=si x3;exact Ri (!b.2)<|Ry i1 ⟨f1,rfl⟩
 rintro e_ w_ ⟨m6,o6,_,rfl,t0,rfl,n,rfl⟩;refine nrm<|cn H (fun b5 H=>?_) (fun b5 H=>?_)
 ·refine Ru b.2<|vx (leN 31 0 [I a.2.Wide,I a.2.High,.slice d e f,I a.2.At.Row,I a.2.At.Col,B a.2.At.Pending,B a.2.Auto] (n.on 1 rfl)) ?_;have o2:=n.slf 2 rfl (j.mono (o.trans (s.trans (D.trans (E.trans (s0.trans t0))))));refine bn H fun x0 p2 H=>cl (oI n a.2 o2 p2) ?_;rintro x5 c2 q5 ⟨q1,rfl⟩;refine Rk (b.2==x0)<|RD<|thr ?_;obtain rfl:=si H;have s1:=q1.sD 3 [];exact Rz c2 ⟨P,s1,d0.m,rfl⟩
 refine RG<|RB (Q g)<|vx (le1 0 u_3 (n.on 1 rfl))<|Rs g 1<|vx (le1 1 u_3 (n.on 1 rfl))<|bn H fun y0 q2 H=>cl (qM n d0.m a.2.Wide a.2.High q2) ?_;rintro y d2 l0 ⟨_,e5,t1,y1,i5,rfl,g0⟩;refine va y<|Rx<|bn H fun z s2 H=>bn H fun n2 h0 H=>W.join (Jn d2 fun c l=>∃G_,Own c G_ (es false cp k 52 m1 b.1::(Eb g 31 [I a.2.Wide,I a.2.High,.slice d e f,I a.2.At.Row,I a.2.At.Col,B a.2.At.Pending,B a.2.Auto])::es false aN (.slice d e f) 56 k1 a.2.Lines::F)/\l= [(4,B n2)]/\Rel c z.1 G_) ?_ ?_
 ·clear H;refine rD [] (Kp G0 [(Eb g 31 [I a.2.Wide,I a.2.High,.slice d e f,I a.2.At.Row,I a.2.At.Col,B a.2.At.Pending,B a.2.Auto])]) t1 ?_;intro e2 m0 S;have u5:=(Kp.cons (S.on 1 rfl) Kp.nil0);refine ta 0 y<|ta 1 k ?_;obtain ⟨f2,u2,o0,T,t2⟩:=S.frz 0 rfl (x4.mono (t0.trans (l0.trans m0)));have l3:=(Kp.cons (T.on 1 rfl) Kp.nil0);refine AC.gh u2 o0 (fun _=>l3) (o1 2 (gc 2 (oF T y1.m (hG.m.le (by decide)) y0.2 b.1 g0.m t2 s2) ?_));rintro y5 e0 h3 ⟨_,N,t,x,rfl,v2⟩;have u0:=(Kp.cons (t.on 1 rfl) Kp.nil0);refine ⟨.inr u0,AC.take 3 (B z.2.isNil) rfl (by kernel_rfl) (by kernel_rfl) (fun c' k0=>(by rcases (v2).cs with ⟨i0,j0⟩|⟨b_,i0,j0⟩|⟨b_,i0,j0⟩ <;> (subst i0; rw [j0]; kernel_rfl))) ?_⟩;rcases bo z.2.isNil with i|i
  ·have h:=anT i h0;refine bn h fun u3 w2 h=>bn h fun v3 x2 h=>bn h fun z0 y2 h=>AC.takeb 4 i rfl (by kernel_rfl) (by kernel_rfl) (fun c' k0=>(by kernel_rfl)) (ta 5 y<|tkx 7 u0 (fun c' k0 hk=>leN 31 0 [I a.2.Wide,I a.2.High,.slice d e f,I a.2.At.Row,I a.2.At.Col,B a.2.At.Pending,B a.2.Auto] (hk.on 0 rfl)) (o1 6 (gc 6 (jp t x y0.2 g0.m w2) ?_)));rintro a6 g2 i3 ⟨z5,v5,u,rfl,z2⟩;have m3:=(Kp.cons (u.on 2 rfl) Kp.nil0);refine ⟨.inr m3,?_⟩;have a3:=u.slf 3 rfl (j.mono (o.trans (s.trans (D.trans (E.trans (s0.trans (t0.trans (l0.trans (m0.trans (o0.trans (h3.trans i3)))))))))));refine o1 8 (gc 8 (sN u a.2 a3 x2) ?_);rintro d6 i2 j3 ⟨b6,w5,U,rfl,c3⟩;have n3:=(Kp.cons (U.on 3 rfl) Kp.nil0);refine ⟨.inr n3,?_⟩;obtain ⟨j2,e3,q0,X,d3⟩:=U.frz 1 rfl (z2.mono j3);have o3:=(Kp.cons (X.on 3 rfl) Kp.nil0);refine AC.gh e3 q0 (fun _=>o3) ?_;obtain ⟨k2,g3,k3,Z,f3⟩:=X.frz 0 rfl (c3.mono q0);have p3:=(Kp.cons (Z.on 3 rfl) Kp.nil0);refine AC.gh g3 k3 (fun _=>p3) (o1 9 (gc 9 (sO Z u3 v3 d3.m f3 y2) ?_));rintro e6 f0 r5 ⟨a0,rfl⟩;have q3:=(Kp.cons (a0.on 3 rfl) Kp.nil0);refine ⟨.inr q3,?_⟩;obtain rfl:=si h;refine ta 10 (B z0)<|ta 11 (B z0)<|dn (nrm ?_);have u1:=a0.sD 5 [2,3,4];exact jn f0 ⟨N,u1,rfl,x.m⟩
  obtain rfl:=anF i h0;exact AC.takeb 4 i rfl (by kernel_rfl) (by kernel_rfl) (fun c' k0=>(by kernel_rfl)) (tp 5<|tp 7<|tp 6<|tp 8<|tp 9<|ta 10 (B false)<|ta 11 (B false)<|dn (nrm<|jn e0 ⟨N,t,rfl,x⟩))
 rintro e_ w_ ⟨l2,n5,_,rfl,s5,rfl,n1,w1,rfl,z1⟩;refine nrm<|W.ret ?_;obtain rfl:=si H;have x1:=w1.sD 3 [];exact Rz l2 ⟨n1,x1,z1,rfl⟩
end Go.Proofs.YtkgjnbiiiifoaaaGreatDoor
namespace Go.Lt
open Go.ChangeShapes Go.WideShapes Go.RowKit
def C0 (w:World):Cx:=⟨w,fun _ _=>False,fun _ _=>none⟩
theorem L5 (w:World):Own (C0 w) (fun _ _=>[]) []:=
 ⟨⟨fun i e h=>by cases i <;> simp [at_] at h,fun i j e e' h=>by cases i <;> simp [at_] at h⟩,fun _ _ _=>rfl⟩
theorem im0 {w:World}{b o:Nat}{v:Value}(h:w.cell? ⟨b,o,none⟩=some v):Im (C0 w) b o v:=by
 refine ⟨?_,id,h⟩;unfold World.cell? at h;split at h
 ·rename_i hh; exact (Array.getElem?_eq_some_iff.1 hh).1
 ·cases h
def Rd (P:Program) (t:TypeId){α:Type}(R:Rp α) (K:α->Prop):Prop:=
 P.cellsOf t=R.size/\∀{H:Type}{enc:TypeId×Value->H}{w:World}{sp:Nat->Bool}{held:Bool}{fuel:Nat}{cs:List Value}{x:DataW H×List MemPlace},
  DataW.trod enc P w 0 sp held fuel t cs=some x->∃y,R.cells (C0 w) cs y/\K y
theorem Rd.int {P:Program}{t:TypeId}{k:IntKind}(ht:P.underlying t=some (.int k)) (hc:P.cellsOf t=1):Rd P t (RI k) (fun n=>(Lit.int k n).wf=true):=
 ⟨hc,fun h=>by obtain ⟨n,rfl,_,hw⟩:=DataW.trod_int ht h; exact ⟨n,rfl,hw⟩⟩
theorem K5 {α:Type}{Q:Nat->α->Prop}:∀n,(∀i,i<n->∃x,Q i x)->∃xs:List α,xs.length=n/\∀i x,xs[i]? = some x->Q i x
 | 0,_=>⟨[],rfl,fun i x h=>by simp at h⟩
 | n+1,h=>by
  obtain ⟨xs,hl,hx⟩:=K5 n fun i hi=>h i (Ms hi);obtain ⟨y,hy⟩:=h n (MA n);refine ⟨xs++ [y],by simp [hl],fun i x hi=>?_⟩;rw [fM] at hi;split at hi
  ·exact hx i x hi
  ·rename_i hn
   have h1:=(List.getElem?_eq_some_iff.1 hi).1;simp only [aM,bf] at h1;obtain rfl:i=n:=by omega
   rw [hl,nF] at hi;cases hi;exact hy
theorem BP {w:World}{a:Addr}{n:Nat}{cs:List Value}(h:w.cells? 0 a n=some cs):cs.length=n/\∀j u,cs[j]? = some u->w.cell? (a.add j)=some u:=by
 unfold World.cells? at h;rw [ae (dk _)] at h;have hl:cs.length=n:=by simpa using mapM_some_length h
 refine ⟨hl,fun j u hu=>?_⟩;have hjn:j<n:=by have:=(List.getElem?_eq_some_iff.1 hu).1; omega
 have hj:=mapM_some_get h j j (dE hjn);rw [hu] at hj;exact hj
theorem Rd.field {P:Program}{H:Type}{enc:TypeId×Value->H}{w:World}{sp:Nat->Bool}{held:Bool}{n:Nat}{cs:List Value}{fs:Array Field}{xs:List (DataW H×List MemPlace)}
  (hf:∀(i:Nat) (f:Field),fs[i]? = some f->DataW.trod enc P w 0 sp held n f.type ((cs.drop f.offset).take (P.cellsOf f.type))=xs[i]?) (hx:xs.length=fs.size)
  (i:Nat){f:Field}(hi:fs[i]? = some f){α:Type}{R:Rp α}{K:α->Prop}(h:Rd P f.type R K):∃y,R.cells (C0 w) ((cs.drop f.offset).take R.size) y/\K y:=by
 have hlt:=(Array.getElem?_eq_some_iff.1 hi).1;have:=hf i f hi;rw [af (show i<xs.length by omega),h.1] at this;exact h.2 this
section
variable {P:Program}{H:Type}{enc:TypeId×Value->H}{w:World}{sp:Nat->Bool}{held:Bool}{t:TypeId}{v:Value}{d:DataW H}{p:List MemPlace}
theorem I2 {α:Type}{R:Rp α}{K:α->Prop}{fs:Array Field}(ht:P.underlying t=some (.struct fs)) (h:Rd P t R K) (hok:Value.okWide P w .any 0 t v) (hd:DataW.Trod enc P w 0 sp held t v d p):
  ∃cs x,v= .agg cs/\R.cells (C0 w) cs.toList x/\K x:=by
 obtain ⟨fuel,hd⟩:=hd;obtain ⟨x,hx,hk⟩:=h.2 hd;unfold Value.okWide at hok;rw [ht] at hok;obtain ⟨cs,rfl,_⟩:=hok;exact ⟨cs,x,rfl,hx,hk⟩
end
theorem uG {H:Type}{enc:TypeId×Value->H}{P:Program}(hl:laidOutB P=true){w w':World}(h:∀k,k<w.heap.size->w'.heap[k]? = w.heap[k]?){sp:Nat->Bool}:
  ∀{ts:List TypeId}{vs:List Value}{ds:List (DataW H)}{ps:List MemPlace},(ts.all fun t=>P.readableRec t && decide (t<P.types.size))=true->(∀x∈ps,x.block<w.heap.size)->(∀x∈ps,sp x.block=true)->
  DataW.TrodAll enc P w 0 (fun _=>true) true ts vs ds ps->DataW.TrodAll enc P w' 0 sp true ts vs ds ps
 | [],[],[],_,_,_,_,hA=>hA
 | [],_::_,_,_,_,_,_,hA=>hA.elim
 | [],[],_::_,_,_,_,_,hA=>hA.elim
 | _::_,[],_,_,_,_,_,hA=>hA.elim
 | _::_,_::_,[],_,_,_,_,hA=>hA.elim
 | t::ts,v::vs,d::ds,ps,hr,hlt,hsp,hA=>by
  obtain ⟨p,q,h1,h2,rfl⟩:=hA;simp only [List.all_cons,ao,am] at hr;refine ⟨p,q,WideElems.Trod_stays hl hr.1.1 hr.1.2 h1 (fun x hx=>?_) (fun x hx=>hsp x (dQ _ hx)),uG hl h hr.2 (fun x hx=>hlt x (pG _ hx)) (fun x hx=>hsp x (pG _ hx)) h2,rfl⟩;have hb:=hlt x (dQ _ hx)
  cases x with
  | cell b o=>exact dw (w:=w) (h b hb)
  | map b=>exact h b hb
theorem Ek {H:Type}{enc:TypeId×Value->H}{P:Program}{f:Func}{s:ChangeSpec}{apart fresh handsOn again:Bool}{w w':World}{args:Array Value}{v:Value}{ds gs:List (DataW H)}{ps before:List MemPlace}
  (hW:DataW.Whole enc P f.params.toList s.vars apart w args.toList ds gs before) (he:before=ps++ [])
  (hr:∀(b:Nat) (sp:Nat->Bool) (hd:Bool),DataW.TrodAll enc P w' b sp hd f.resultTypes.toList (v.resultList f.resultTypes.size) (s.fn H (ds++gs)).results [])
  (ha:∀sp:Nat->Bool,(∀x∈ps,sp x.block=true)->DataW.TrodAll enc P w' 0 sp true f.params.toList args.toList (s.fn H (ds++gs)).args ps)
  (hv:∀sp:Nat->Bool,DataW.TrodVars enc P w' sp s.vars (s.fn H (ds++gs)).vars [])
  (hg:Gr w w') (ho:∀(j:Nat) (t:TypeId) (r:Value),f.resultTypes[j]? = some t->(v.resultList f.resultTypes.size)[j]? = some r->Value.okWide P w' .any 0 t r):s.post enc P f apart fresh handsOn again w args v w':=by
 rw [dY] at he;subst he;have hlt:∀x∈before,x.block<w.heap.size:=fun x hx=>hW.lt x hx;refine ⟨ds,gs,before,[],before,[],hW,hr _ _ _,ha _ (fun x hx=>yc (hlt x hx)),hv _,Mg (fun x hx=>⟨hx,.inr (.inl hx)⟩) (hg.frame (· ∈before)),fun _=>?_⟩;obtain ⟨_,_,_,_,_,hz,hn⟩:=hW;refine ⟨ho,_,_,([]++before)++ [],⟨[]++before,[],trodAll_append (ha _ fun _ _=>rfl) (hr _ _ _),hv _,rfl,fun b off hb=>?_,fun e=>?_⟩,fun x hx _=>by simpa using hx⟩
 ·have hb':MemPlace.cell b off∈before:=by simpa using hb
  have:=hlt _ hb';rw [hg.2.1 ⟨b,off,none⟩ this];exact hz b off (by simpa using hb')
 ·simpa using hn e
theorem JZ {P:Program}{laid:List (String×DataW Unit)}{w:World}(h:(laid.filter fun x=>x.2.handleName?.isSome)= []):laidMetH P laid w=laidMet P laid w:=by
 unfold laidMetH;rw [h]
theorem zu {P:Program}{W:World}{ti tp te ts:TypeId}{ms:Array (String×TypeId)}{f:Field}(hi:P.underlying ti=some (.interface ms)) (hrow:∀u,P.typeName? 3 u=some "*errors.errorString"->u=tp)
  (hp:P.underlying tp=some (.pointer te)) (he:P.underlying te=some (.struct #[f])) (hft:f.type=ts) (hfo:f.offset=0) (hs:P.underlying ts=some .string) (hc:P.cellsOf te=1) (hcs:P.cellsOf ts=1):
  ∀{laid:List (String×DataW Unit)}{ps:List MemPlace},DataW.LaidVars P W laid ps->(∀b off,MemPlace.cell b off∈ps->(∃c t,W.heap[b]? = some (.cells c t (0,0)))/\∀u v,W.cell? ⟨b,off,none⟩=some (.iface u v)->Value.okWide P W .any 0 u v)->
  ∀n text g,(n,DataW.iface "*errors.errorString" (.ptr (.agg [.lit (.string text)])))∈laid->P.globalNamed n=some g->(P.globals[g]?).map (·.type)=some ti->∃a s,W.cell? ⟨g,0,none⟩=some (.iface tp (.pointer (some a)))/\W.cell? a=some (.string s)/\s.data.toList=text/\∃c t,W.heap[a.block]? = some (.cells c t (0,0))
 | [],_,_,_,_,_,_,hm,_,_=>by cases hm
 | (n',d)::r,ps,⟨g',t,cs,fuel,p,q,hg',ht',hv,hd,hr,e⟩,hrows,n,text,g,hm,hg,ht=>by
  subst e;rcases List.mem_cons.1 hm with hh|hm
  ·cases hh;obtain rfl:=aL (hg.symm.trans hg');obtain rfl:=aL (ht.symm.trans ht');obtain ⟨l⟩:=cs;have ok:∀u v,l= [.iface u v]->Value.okWide P W .any 0 u v:=fun u v e=>by
    subst e;exact (hrows g 0 (by simp [MemPlace.row])).2 u v (by simpa using E9 hg hv 0)
   obtain ⟨a,s,rfl,h1,h2,_,rfl⟩:=errorString_of_trod hi hrow hp he hft hfo hs hc hcs hd ok;exact ⟨a,s,by simpa using E9 hg hv 0,h1,h2,(hrows a.block a.off (by simp [MemPlace.row])).1⟩
  ·exact zu hi hrow hp he hft hfo hs hc hcs hr (fun b off hb=>hrows b off (pG _ hb)) n text g hm hg ht
theorem J8 {P:Program}{f:FuncId}{fn:Func}{s:ChangeSpec}{c:OpenClaim}(l1:laidOutB P=true) (l2:mapsRowed P=true) (l3:(P.stops== [])=true) (l4:(P.stopKnobs== [])=true) (l5:P.stopsHeard=true) (l6:P.mayEnter=true)
  (l7:(c.lifted==P.liftsFinal)=true) (l8:(P.make==some c.make)=true) (l9:(c.plainKeys==P.plainKeys)=true)
  (a0:c.wf (OpenSpec.ofChange s)=true) (a1:(fn.params.all (P.readableRec ·) && namedTie P c.named s.vars && (c.stops== []) && (c.knobs== []))=true)
  (a2:(c.inPlace==P.inPlace f)=true) (a3:(c.unfollowed==P.unfollowed f)=true) (a4:(c.recurses==P.recurses f)=true) (a5:(c.named==P.varsNamed f)=true)
  (a6:((c.maps==(fn.params.toList++s.plain.varTypes P).any (P.mapsRec ·)) && (c.ifaces==(fn.params.toList++s.plain.varTypes P).any (P.ifacesRec ·)) && (c.mapsOut==P.mapsAmong fn.resultTypes.toList) &&
   (c.loops==(fn.params.toList++s.plain.varTypes P).any (P.loopsFrom ·)) && (c.wideKeys==(fn.params.toList++s.plain.varTypes P++fn.resultTypes.toList).any (P.wideKeysFrom ·)) &&
   s.vars.all (P.varReadable ·) && fn.resultTypes.all (fun t=>P.readableRec t && decide (t<P.types.size)) && (c.ifacesOut==fn.resultTypes.toList.any (P.ifacesRec ·)) && (c.loopsOut==fn.resultTypes.toList.any (P.loopsFrom ·)))=true)
  (a7:(c.shortTexts.isNone && (c.kinds==(if c.domain.isEmpty then [] else fn.params.toList.map fun t=>match P.underlying t with|some (.int k)=>some k|_=>none)) && (c.pinned==c.pinnedBy) &&
   (c.veiled==(fn.params.toList++s.plain.varTypes P++fn.resultTypes.toList).any (P.veiledRec ·)) && c.veiledFits P fn.params.toList (fn.params.toList++s.plain.varTypes P++fn.resultTypes.toList))=true):joinedFacts P f fn s c=true:=by
 simp only [ao] at a1 a6 a7;obtain ⟨⟨⟨b1,b2⟩,b3⟩,b4⟩:=a1;obtain ⟨⟨⟨⟨⟨⟨⟨⟨c1,c2⟩,c3⟩,c4⟩,c5⟩,c6⟩,c7⟩,c8⟩,c9⟩:=a6;obtain ⟨⟨⟨⟨d1,d2⟩,d3⟩,d4⟩,d5⟩:=a7;unfold joinedFacts;simp only [ao];exact ⟨⟨⟨⟨⟨⟨⟨⟨⟨⟨⟨⟨⟨⟨⟨⟨⟨⟨⟨⟨⟨⟨⟨⟨⟨⟨⟨⟨⟨⟨⟨a0,l1⟩,l2⟩,b1⟩,b2⟩,b3⟩,l3⟩,b4⟩,l4⟩,a2⟩,a3⟩,a4⟩,a5⟩,c1⟩,c2⟩,c3⟩,c4⟩,c5⟩,c6⟩,c7⟩,c8⟩,c9⟩,l9⟩,d1⟩,l5⟩,l6⟩,l7⟩,l8⟩,d2⟩,d3⟩,d4⟩,d5⟩
end Go.Lt
namespace Go.Proofs.YtkgjnbiiiifoaaaGreatDoor
open Go Go.Lt
set_option linter.unusedVariables false
theorem L7 {α:Type}{cs:List α}(h:cs.length=4):∃a0 a1 a2 a3,cs= [a0,a1,a2,a3]:=by
 match cs,h with
 | [a0,a1,a2,a3],_=>exact ⟨_,_,_,_,rfl⟩
theorem L8 {α:Type}{cs:List α}(h:cs.length=2):∃a0 a1,cs= [a0,a1]:=by
 match cs,h with
 | [a0,a1],_=>exact ⟨_,_,rfl⟩
def K_3 (n:Int):Prop:=(Lit.int .i64 n).wf=true
theorem D_3:Rd Tryz.prog 3 (RI .i64) K_3:=Rd.int Tryz.underlying3 (by kernel_rfl)
def Mk (x:dZ):Prop:=K_3 x.W/\K_3 x.H
theorem Mm:Rd Tryz.prog 23 sZ Mk:=by
 refine ⟨by kernel_rfl,fun {H enc w sp held fuel cs x} h=>?_⟩;obtain ⟨xs,n,rfl,rfl,hl,hn,hf⟩:=My Tryz.underlying23 h;replace hl:=hl.trans (show Tryz.prog.cellsOf 23=2 by kernel_rfl);obtain ⟨a0,a1,rfl⟩:=L8 hl;obtain ⟨y0,e0,k0⟩:=Rd.field hf hn 0 rfl D_3;have e0: [a0]= [.int .i64 y0]:=e0;cases e0;obtain ⟨y1,e1,k1⟩:=Rd.field hf hn 1 rfl D_3;have e1: [a1]= [.int .i64 y1]:=e1;cases e1;exact ⟨⟨y0,y1⟩,rfl,k0,k1⟩
def K_5 (n:Int):Prop:=(Lit.int .u8 n).wf=true
theorem D_5:Rd Tryz.prog 5 (RI .u8) K_5:=Rd.int Tryz.underlying5 (by kernel_rfl)
theorem L3 (w:World):Rel (C0 w) ⟨[],[],[],[],[],[],[],[]⟩ (fun _ _=>[]):=
 ⟨⟨fun k x h=>by simp at h,fun _ _=>rfl⟩,⟨fun k x h=>by simp at h,fun _ _=>rfl⟩,⟨fun k x h=>by simp at h,fun _ _=>rfl⟩,⟨fun k x h=>by simp at h,fun _ _=>rfl⟩,⟨fun k x h=>by simp at h,fun _ _=>rfl⟩,⟨fun k x h=>by simp at h,fun _ _=>rfl⟩,⟨fun k x h=>by simp at h,fun _ _=>rfl⟩,⟨fun k x h=>by simp at h,fun _ _=>rfl⟩⟩
theorem KR: "*" ++ "errors.errorString" = "*errors.errorString" :=by decide
set_option maxRecDepth 100000 in
theorem FA (u:TypeId) (h:Tryz.prog.typeName? 3 u=some "*errors.errorString"):u=352:=
 typeName_ptr_named (nm:= "errors.errorString") (by rw [KR]; kernel_rfl) (by kernel_rfl) (by decide) u (by rw [KR]; exact h)
set_option maxRecDepth 100000 in
theorem pu {W:World}{laid:List (String×DataW Unit)}(h:laidMetH Tryz.prog laid W) (hf:(laid.filter fun x=>x.2.handleName?.isSome)= []) (n:String) (text:List UInt8) (g:Nat)
  (hm:(n,DataW.iface "*errors.errorString" (.ptr (.agg [.lit (.string text)])))∈laid) (hg:Tryz.prog.globalNamed n=some g) (ht:(Tryz.prog.globals[g]?).map (·.type)=some 39):
  ∃a s,Im (C0 W) g 0 (.iface 352 (.pointer (some a)))/\W.cell? a=some (.string s)/\s.data.toList=text/\RE 352 80 (C0 W) (.iface 352 (.pointer (some a))) (.sent g):=by
 rw [JZ hf] at h;obtain ⟨ps,hl,_,hr⟩:=h;obtain ⟨a,s,h1,h2,h3,cs,t,h4⟩:=zu Tryz.underlying39 FA Tryz.underlying352 Tryz.underlying354 rfl rfl Tryz.underlying9 (by kernel_rfl) (by kernel_rfl) hl hr n text g hm hg ht;exact ⟨a,s,im0 h1,h2,h3,a,rfl,im0 h1,(Array.getElem?_eq_some_iff.1 h4).1,fun _=>id,cs,t,h4⟩
theorem Ka {W:World}{n:List Nat}(tx:Nat->List UInt8) (h:∀g,g∈n->∃a s,Im (C0 W) g 0 (.iface 352 (.pointer (some a)))/\W.cell? a=some (.string s)/\s.data.toList=tx g/\RE 352 80 (C0 W) (.iface 352 (.pointer (some a))) (.sent g))
  (hd:∀g,g∈n->∀g',g'∈n->tx g=tx g'->g=g'):Gl n (C0 W):=by
 refine ⟨fun g hg=>?_,fun g g' hg hg' hne a h1 h2=>?_⟩
 ·obtain ⟨a,_,_,_,_,h4⟩:=h g hg;exact ⟨_,h4⟩
 ·obtain ⟨a1,s1,e1,e2,e3,_⟩:=h g hg;obtain ⟨a2,s2,f1,f2,f3,_⟩:=h g' hg';have q1:=e1.cell.symm.trans h1.cell;have q2:=f1.cell.symm.trans h2.cell;cases q1;cases q2;have q3:=e2.symm.trans f2;cases q3;exact hne (hd g hg g' hg' (e3.symm.trans f3))
end Go.Proofs.YtkgjnbiiiifoaaaGreatDoor
namespace Go.Lt
open Go.ChangeShapes Go.WideShapes Go.RowKit
def RdM (P:Program) (t:TypeId){α:Type}(R:Rp α) (K:α->Prop):Prop:=
 P.cellsOf t=R.size/\∀{H:Type}{enc:TypeId×Value->H}{w:World}{sp:Nat->Bool}{held:Bool}{fuel:Nat}{cs:List Value}{x:DataW H×List MemPlace},
  DataW.trod enc P w 0 sp held fuel t cs=some x->(∀n∈x.1.weights P t,n<=reachBytes)->∃y,R.cells (C0 w) cs y/\K y
theorem Rd.m {P:Program}{t:TypeId}{α:Type}{R:Rp α}{K:α->Prop}(h:Rd P t R K):RdM P t R K:=⟨h.1,fun hd _=>h.2 hd⟩
theorem wC {H:Type}{P:Program}{e:TypeId}:∀{l:List (DataW H)}{i:Nat}{d:DataW H},l[i]? = some d->∀n∈d.weights P e,n∈DataW.weightsAll P e l
 | d0::l,0,d,h,n,hn=>by
  simp only [lv,aK] at h;subst h;simp only [DataW.weightsAll,qS];exact Or.inl hn
 | d0::l,i+1,d,h,n,hn=>by
  simp only [fL] at h;simp only [DataW.weightsAll,qS];exact Or.inr (wC h n hn)
 | [],_,_,h,_,_=>by simp at h
theorem RdM.slice {P:Program}{t e:TypeId}{α:Type}{R:Rp α}{K:α->Prop}(ht:P.underlying t=some (.slice e)) (hc:P.cellsOf t=1) (h0:0<R.size) (hb:0<P.bytesOf e) (h:RdM P e R K):RdM P t (RL R) (fun xs=>xs.length<=reachBytes/\∀x∈xs,K x):=by
 refine ⟨hc,fun {H enc w sp held fuel cs x} hd hw=>?_⟩;rcases DataW.trod_slice ht hd with ⟨rfl,_⟩|⟨a,len,cap,elems,rest,n,_,rfl,hx,_,hl,hm,hlen,hel,_,_⟩
 ·exact ⟨[],⟨_,rfl,Sl.nl R _⟩,dk _,fun x hx=>by cases hx⟩
 ·subst hx;simp only [DataW.weights,ht] at hw;have hlr:len<=reachBytes:=by
   have h1:=hw _ (AM ..);have h2:len<=((elems.map (·.1)).length+(rest.map (·.1)).length)*P.bytesOf e:=by
    rw [dF,hlen];exact cO (Nat.le_add_right _ _) (Nat.le_mul_of_pos_right _ hb)
   omega
  obtain ⟨b,o,s⟩:=a;have key:∀i,i<len->∃x,K x/\∃b' off l,(some ⟨b,o,s⟩:Option Addr)=some ⟨b',off,none⟩/\R.cells (C0 w) l x/\∀j u,l[j]? = some u->Im (C0 w) b' (off+i*R.size+j) u:=by
   intro i hi;have hs:s=none:=by
    have hE:=hel 0 (by omega);rw [af (show 0<elems.length by omega),Jm] at hE;obtain ⟨cs,hcs,_⟩:=hE;obtain ⟨c1,c2⟩:=BP hcs;have hp:0<cs.length:=by rw [c1,h.1]; exact h0
    have:=World.cell?_spot (c2 0 _ (af hp));simpa [Addr.add] using this
   subst hs;have hE:=hel i hi;rw [af (show i<elems.length by omega),Jm] at hE;obtain ⟨cs,hcs,hr⟩:=hE;obtain ⟨c1,c2⟩:=BP hcs;have hget:(elems.map (·.1))[i]? = some elems[i].1:=by
    rw [bB,af (show i<elems.length by omega)];rfl
   obtain ⟨x,hx,hk⟩:=h.2 hr fun n hn=>hw n (qz _ (dQ _ (wC hget n hn)));refine ⟨x,hk,b,o,cs,rfl,hx,fun j u hu=>im0 ?_⟩;have:=c2 j u hu;rw [Jr,Jr,h.1] at this;exact this
  obtain ⟨xs,hxl,hxs⟩:=K5 len key;subst hxl;refine ⟨xs,⟨_,rfl,some ⟨b,o,s⟩,cap,rfl,hl,hm,fun i x hx=>(hxs i x hx).2⟩,hlr,fun x hx=>?_⟩;obtain ⟨i,hi⟩:=List.mem_iff_getElem?.1 hx;exact (hxs i x hi).1
theorem RdM.field {P:Program}{H:Type}{enc:TypeId×Value->H}{w:World}{sp:Nat->Bool}{held:Bool}{n:Nat}{cs:List Value}{t:TypeId}{fs:Array Field}{xs:List (DataW H×List MemPlace)}
  (ht:P.underlying t=some (.struct fs)) (hw:∀m∈(DataW.agg (xs.map (·.1)):DataW H).weights P t,m<=reachBytes)
  (hf:∀(i:Nat) (f:Field),fs[i]? = some f->DataW.trod enc P w 0 sp held n f.type ((cs.drop f.offset).take (P.cellsOf f.type))=xs[i]?) (hx:xs.length=fs.size)
  (i:Nat){f:Field}(hi:fs[i]? = some f){α:Type}{R:Rp α}{K:α->Prop}(h:RdM P f.type R K):∃y,R.cells (C0 w) ((cs.drop f.offset).take R.size) y/\K y:=by
 have hlt:=(Array.getElem?_eq_some_iff.1 hi).1;have:=hf i f hi;have hxi:=af (show i<xs.length by omega);rw [hxi,h.1] at this;refine h.2 this fun m hm=>hw m ?_;simp only [DataW.weights,ht];refine DataW.weights_mem_each (j:=i) (t:=f.type) (d:=xs[i].1) ?_ ?_ m hm
 ·rw [bB,KM,hi];rfl
 ·rw [bB,hxi];rfl
theorem CX {P:Program}{H:Type}{enc:TypeId×Value->H}{w:World}{sp:Nat->Bool}{held:Bool}{t:TypeId}{v:Value}{d:DataW H}{p:List MemPlace}{e:TypeId}{α:Type}{R:Rp α}{K:List α->Prop}
  (ht:P.underlying t=some (.slice e)) (h:RdM P t (RL R) K) (hok:Value.okWide P w .any 0 t v) (hd:DataW.Trod enc P w 0 sp held t v d p) (hw:∀n∈d.weights P t,n<=reachBytes):∃xs,Sl R (C0 w) v xs/\K xs:=by
 obtain ⟨fuel,hd⟩:=hd;obtain ⟨xs,⟨u,hu,hs⟩,hk⟩:=h.2 hd hw;have:v.cells= #[v]:=by
  unfold Value.okWide at hok;simp only [ht] at hok;unfold Cell.okWide at hok
  cases v <;> simp [ht,Cell.ok] at hok|-
  all_goals rfl
 rw [this] at hu;cases hu;exact ⟨xs,hs,hk⟩
end Go.Lt
namespace Go.Proofs.YtkgjnbiiiifoaaaGreatDoor
open Go Go.Lt Go.ChangeShapes Go.WideShapes Go.RowKit
set_option maxRecDepth 100000
def Jp (xs:List Int):Prop:=xs.length<=reachBytes/\∀x∈xs,K_5 x
theorem LP:RdM Tryz.prog 48 (RL (RI .u8)) Jp:=RdM.slice Tryz.underlying48 (by kernel_rfl) (by decide) (by rw [show Tryz.prog.bytesOf 5=1 by kernel_rfl]; decide) D_5.m
def Jo (x:aJ):Prop:=K_3 x.Kind/\K_3 x.A/\K_3 x.B/\Jp x.Bytes
theorem LO:RdM Tryz.prog 52 cp Jo:=by
 refine ⟨by kernel_rfl,fun {H enc w sp held fuel cs x} h hw=>?_⟩;obtain ⟨xs,n,rfl,rfl,hl,hn,hf⟩:=My Tryz.underlying52 h;replace hl:=hl.trans (show Tryz.prog.cellsOf 52=4 by kernel_rfl);obtain ⟨a0,a1,a2,a3,rfl⟩:=L7 hl;obtain ⟨y0,e0,k0⟩:=RdM.field Tryz.underlying52 hw hf hn 0 rfl D_3.m;have e0: [a0]= [.int .i64 y0]:=e0;cases e0;obtain ⟨y1,e1,k1⟩:=RdM.field Tryz.underlying52 hw hf hn 1 rfl D_3.m;have e1: [a1]= [.int .i64 y1]:=e1;cases e1;obtain ⟨y2,e2,k2⟩:=RdM.field Tryz.underlying52 hw hf hn 2 rfl D_3.m;have e2: [a2]= [.int .i64 y2]:=e2;cases e2;obtain ⟨y3,e3,k3⟩:=RdM.field Tryz.underlying52 hw hf hn 3 rfl LP;obtain ⟨v3,e3,s3⟩:=e3;have e3: [a3]= [v3]:=e3;cases e3;exact ⟨⟨y0,y1,y2,y3⟩,⟨_,rfl,s3⟩,k0,k1,k2,k3⟩
def LN (xs:List aJ):Prop:=xs.length<=reachBytes/\∀x∈xs,Jo x
theorem LQ:RdM Tryz.prog 24 (RL cp) LN:=RdM.slice Tryz.underlying24 (by kernel_rfl) (by decide) (by rw [show Tryz.prog.bytesOf 52=48 by kernel_rfl]; decide) LO
end Go.Proofs.YtkgjnbiiiifoaaaGreatDoor
namespace Go.Proofs.YtkgjnbiiiifoaaaGreatDoor
open Go Go.Lt Go.RowKit
theorem vh {H:Type}{enc:TypeId×Value->H}{a:Assume}{C:Checked}{os:Os}{f:FuncId}{fn:Func}{s:ChangeSpec}{conds:List PathCond}{apart fresh handsOn again:Bool}{X:World->Array Value->Prop}
  (hX:∀(w w':World) (args:Array Value),w.heap=w'.heap->X w args->X w' args)
  (own:ownKnob C.prog.godebug=none) (started:os.Started) (noInit:C.prog.inits.idxOf? f=none) (hfn:C.prog.funcs[f]? = some fn)
  (witness:∃(w:World) (tape:Tape) (i:Input),w.os=os/\(w.forCall tape i).Shaped C.prog/\i.vars= []/\Input.okWide C.prog (w.forCall tape i) .any w.heap.size f i/\
   ((s.pre enc C.prog fn conds apart (w.forCall tape i).memory i.args/\X (w.forCall tape i).memory i.args)/\sizedMet enc C.prog fn (OpenSpec.ofChange s) apart (w.forCall tape i).memory i.args)/\a.holds C.prog (lone (Frame.enter C.prog f i.args .normal) [] (w.forCall tape i)))
  (contract:∀(W:World) (base:Nat) (args:Array Value) (ds gs:List (DataW H)) (before:List MemPlace),
   (∀(j:Nat) t v,fn.params[j]? = some t->args[j]? = some v->Value.okWide C.prog W .any base t v)->
   DataW.Whole enc C.prog fn.params.toList s.vars apart W args.toList ds gs before->
   conds.all (PathCond.test C.prog ⟨fn.params.toList,ds,s.plain.varTypes C.prog,gs⟩)=true->
   (DataW.weightsEach C.prog (fn.params.toList++s.plain.varTypes C.prog) (ds++gs)).all (· <=reachBytes)=true->X W args->
   W.ShapedOpen C.prog->
   a.holds C.prog (lone (Frame.enter C.prog f args .normal) [] W)->
   Calls C.prog f args W fun e W'=>∃v,e= .returned v/\s.post enc C.prog fn apart fresh handsOn again W args v W'):
  ReturnsInHanded a C os f .any (fun w args=>(s.pre enc C.prog fn conds apart w args/\X w args)/\sizedMet enc C.prog fn (OpenSpec.ofChange s) apart w args) (s.post enc C.prog fn apart fresh handsOn again):=by
 refine returnsInHanded_of_calls own started noInit witness ?_;intro w tape i _ hsh _ hok hpre hholds;obtain ⟨_,_,_,fn',hfn',_,_,_,_,hval⟩:=hok;have e:fn'=fn:=aL (hfn'.symm.trans hfn);subst e;obtain ⟨⟨⟨ds,gs,before,hw,hc⟩,hx⟩,hz⟩:=hpre;have hw':=DataW.Whole.of_heap (w':=w.forCall tape i) (by rfl) hw;refine (contract (w.forCall tape i) w.heap.size i.args ds gs before hval hw' hc (hz.weights hw) (hX _ _ _ (by rfl) hx) hsh hholds).mono fun e W' ⟨v,he,hp⟩=>?_;subst he;exact ChangeSpec.post_blind hp
theorem Bs {P:Program}{W:World}{name:String}{k:IntKind}{zs:List Int}{g:Nat}{t e:TypeId}{n:Nat}
  (hg:P.globalNamed name=some g) (hty:(P.globals[g]?).map (·.type)=some t) (ht:P.underlying t=some (.array n e)) (he:P.underlying e=some (.int k)) (hce:P.cellsOf e=1) (hct:P.cellsOf t=n) (hn:0<zs.length):
  ∀{laid:List (String×DataW Unit)}{ps:List MemPlace},DataW.LaidVars P W laid ps->(∀b off,MemPlace.cell b off∈ps->(∃c t,W.heap[b]? = some (.cells c t (0,0)))/\∀u v,W.cell? ⟨b,off,none⟩=some (.iface u v)->Value.okWide P W .any 0 u v)->
  (name,Lib.tabData k zs)∈laid->Lib.TabIs P W name k zs/\∃c t,W.heap[g]? = some (.cells c t (0,0))
 | [],_,_,_,hm=>by cases hm
 | (n',d)::r,ps,⟨g',t',cs,fuel,p,q,hg',ht',hv,hd,hr,e2⟩,hrows,hm=>by
  subst e2;rcases List.mem_cons.1 hm with hh|hm
  ·cases hh;obtain rfl:=aL (hg.symm.trans hg');obtain rfl:=aL (hty.symm.trans ht');have hcs:=Lib.cells_of_tab ht he hce hct hd;have hsz:cs.size=zs.length:=by
    have:=nb List.length hcs;simpa using this
   refine ⟨by unfold Lib.TabIs; rw [hv,<-hcs],(hrows g 0 ?_).1⟩;refine dQ _ (dQ _ ?_);unfold MemPlace.row;rw [hsz];exact List.mem_map.2 ⟨0,List.mem_range.2 hn,by simp⟩
  ·exact Bs hg hty ht he hce hct hn hr (fun b off hb=>hrows b off (pG _ hb)) hm
theorem Bk {W:World}(h:W.ShapedOpen Tryz.prog):∃m,W.cell? ⟨10,0,none⟩=some (.int .i64 m):=
 cell_of_shapedOpen_int (t:=3) (zero:= #[.int .i64 0]) h (tQ (by kernel_rfl)) (by kernel_rfl) rfl (by kernel_rfl) (by kernel_rfl) (by kernel_rfl)
theorem et0 {W:World}{laid:List (String×DataW Unit)}(hs:W.ShapedOpen Tryz.prog) (hf:(laid.filter fun x=>x.2.handleName?.isSome)= []) (h:laidMetH Tryz.prog laid W) (hm:("internal/strconv.uint64pow10",Lib.tabData .u64 Lib.pow10Tab)∈laid):Et (C0 W):=by
 rw [JZ hf] at h;obtain ⟨ps,hl,_,hr⟩:=h;obtain ⟨h1,c,t,h2⟩:=Bs (t:=278) (e:=53) (n:=20) wG (by kernel_rfl) (by kernel_rfl) (by kernel_rfl) (by kernel_rfl) (by kernel_rfl) (by decide) hl hr hm;obtain ⟨m,h3⟩:=Bk hs;exact ⟨⟨m,im0 h3⟩,⟨(Array.getElem?_eq_some_iff.1 h2).1,fun _=>id,c,t,h2⟩,h1⟩
end Go.Proofs.YtkgjnbiiiifoaaaGreatDoor
namespace Go.Proofs.YtkgjnbiiiifoaaaGreatDoor
open Go Go.Lt
set_option linter.unusedVariables false
structure ag where
 L:List ah
 At:ai
 Auto:Bool
def mo (p0:Int) (p1:List Int):Option (List aa):=
 (cm (σ:=(List Int)×Int) (τ:=(List Int)) (((p1.length:Int)-0).toNat+1) (fun a=>
 (bw (decide (a.2<(p1.length:Int))) (some (decide (a.2<16)))).bind fun c=>
 if c then
 ((idx p1 a.2).bind fun e=>
 (dN e).bind fun f=>
 if f then
 (idx p1 a.2).bind fun g=>
 (app a.1 ([g]:List Int)).bind fun h=>
 some h
 else
 (app a.1 ([65533]:List Int)).bind fun i=>
 some i).bind fun j=>
 some (.inl (j,(w64 (a.2+1))))
 else
 some (.inr a.1)) (([]:List Int),0)).bind fun b=>
 (bw ((b.length:Int)==0) (some (decide (p0>1)))).bind fun d=>
 if d then
 some ([(⟨0,([]:List Int)⟩:aa),(⟨0,([]:List Int)⟩:aa)]:List aa)
 else
 if ((b.length:Int)==0)=true then
 some ([(⟨0,([]:List Int)⟩:aa)]:List aa)
 else
 if decide (p0>1) then
 some ([(⟨2,b⟩:aa),(⟨3,([]:List Int)⟩:aa)]:List aa)
 else
 some ([(⟨1,b⟩:aa)]:List aa)
def iD (p0:List aa) (p1:Bool) (p2:Int) (p3:List aa):Option ((List aa)×Bool):=
 (cm (σ:=Bool×(List aa)×Int) (τ:=(Bool×(List aa))) (((p0.length:Int)-0).toNat+1) (fun a=>
 if decide (a.2.2<(p0.length:Int)) then
 (bw (decide (a.2.2>=p2)) (some (decide (a.2.2<(w64 (p2+(p3.length:Int))))))).bind fun c=>
 (idx p0 a.2.2).bind fun e=>
 (if c then
 (idx p3 (w64 (a.2.2-p2))).bind fun f=>
 some (f.Kind,f.Text)
 else
 some (e.Kind,e.Text)).bind fun b=>
 (bw (!c) ((bw (b.1==2) (some (decide ((w64 (a.2.2+1))>=p2)))).bind fun l=>
 (bw l (some (decide ((w64 (a.2.2+1))<(w64 (p2+(p3.length:Int))))))).bind fun m=>
 (orE m ((bw (b.1==3) (some (decide ((w64 (a.2.2-1))>=p2)))).bind fun o=>
 (bw o (some (decide ((w64 (a.2.2-1))<(w64 (p2+(p3.length:Int))))))).bind fun p=>
 some p)).bind fun n=>
 some n)).bind fun d=>
 (if d then
 some (0,([]:List Int))
 else
 some (b.1,b.2)).bind fun g=>
 ((bw ((w64 (a.2.2+1))==(p0.length:Int)) ((orE c (some d)).bind fun i=>
 some i)).bind fun h=>
 if h then
 some false
 else
 some a.1).bind fun q=>
 (app a.2.1 ([(⟨g.1,g.2⟩:aa)]:List aa)).bind fun j=>
 some (.inl (q,j,(w64 (a.2.2+1))))
 else
 some (.inr (a.1,a.2.1))) (p1,([]:List aa),0)).bind fun k=>
 some (k.2,k.1)
def dL (p0:List aa) (p1:Bool) (p2:Int) (p3:Int):Option ((List aa)×Bool):=
 if (decide ((bb 0 (aR p2 (p0.length:Int)))>=(bb 0 (aR p3 (p0.length:Int)))))=true then
 some (p0,p1)
 else
 (rep (w64 ((bb 0 (aR p3 (p0.length:Int)))-(bb 0 (aR p2 (p0.length:Int))))) (⟨0,([]:List Int)⟩:aa)).bind fun b=>
 (iD p0 p1 (bb 0 (aR p2 (p0.length:Int))) b).bind fun a=>
 some (a.1,a.2)
def lK (p0:List aa) (p1:Bool) (p2:Int) (p3:Int) (p4:Int):Option ((List aa)×Bool):=
 if (p2==0)=true then
 (dL p0 p1 p3 p4).bind fun b=>
 some (b.1,b.2)
 else
 if (p2==1)=true then
 if decide (p3<0) then
 some (p0,p1)
 else
 (dL p0 p1 0 (w64 ((aR p3 (p0.length:Int))+1))).bind fun c=>
 some (c.1,c.2)
 else
 if (p2==2)=true then
 (dL p0 p1 p3 (p0.length:Int)).bind fun d=>
 some (d.1,d.2)
 else
 if (p2==3)=true then
 (dL p0 p1 0 (p0.length:Int)).bind fun g=>
 some (g.1,false)
 else
 (orE (decide (p3<0)) (some (decide (p4<1)))).bind fun e=>
 (orE e (some (decide (p3>=(p0.length:Int))))).bind fun f=>
 if f then
 some (p0,p1)
 else
 (dL p0 p1 p3 (w64 (p3+(aR p4 (p0.length:Int))))).bind fun a=>
 some (a.1,a.2)
def gk (p0:List ah) (p1:Int) (p2:Int) (p3:Int) (p4:Bool):Option (List ah):=
 (orE (decide ((bb 0 (aR p1 (p0.length:Int)))>=(bb 0 (aR p2 (p0.length:Int))))) (some (decide (p3<1)))).bind fun j=>
 if j then
 some p0
 else
 (cm (σ:=(List ah)×Int) (τ:=(List ah)) (((p0.length:Int)-0).toNat+1) (fun a=>
 if decide (a.2<(p0.length:Int)) then
 (idx p0 a.2).bind fun c=>
 ((bw (decide (a.2>=(bb 0 (aR p1 (p0.length:Int))))) (some (decide (a.2<(bb 0 (aR p2 (p0.length:Int))))))).bind fun k=>
 if k then
 (if (!p4)=true then
 some ((w64 (a.2-(aR p3 (w64 ((bb 0 (aR p2 (p0.length:Int)))-(bb 0 (aR p1 (p0.length:Int)))))))))
 else
 some ((w64 (a.2+(aR p3 (w64 ((bb 0 (aR p2 (p0.length:Int)))-(bb 0 (aR p1 (p0.length:Int)))))))))).bind fun b=>
 (idx p0 a.2).bind fun n=>
 (rep (n.Cells.length:Int) (⟨0,([]:List Int)⟩:aa)).bind fun o=>
 (bw (decide (b>=(bb 0 (aR p1 (p0.length:Int))))) (some (decide (b<(bb 0 (aR p2 (p0.length:Int))))))).bind fun l=>
 if l then
 (idx p0 b).bind fun d=>
 some (d.Cells,d.Wrap)
 else
 some (o,false)
 else
 some (c.Cells,c.Wrap)).bind fun e=>
 ((orE ((w64 (a.2+1))==(bb 0 (aR p1 (p0.length:Int)))) ((bw (!p4) (some ((w64 (a.2+1))==(bb 0 (aR p2 (p0.length:Int)))))).bind fun g=>
 some g)).bind fun f=>
 if f then
 some false
 else
 some e.2).bind fun i=>
 (app a.1 ([(⟨e.1,i⟩:ah)]:List ah)).bind fun h=>
 some (.inl (h,(w64 (a.2+1))))
 else
 some (.inr a.1)) (([]:List ah),0)).bind fun m=>
 some m
def gL (p0:Int) (p1:Int):Option Int:=
 if decide (p0<0) then
 some 0
 else
 if decide (p0>=p1) then
 some (w64 (p1-1))
 else
 some p0
def go (p0:ai) (p1:Int) (p2:Int):Option ai:=
 (bh p2).bind fun b=>
 (gL p0.Row b).bind fun c=>
 (bh p1).bind fun d=>
 (gL p0.Col d).bind fun e=>
 (bw p0.Pending ((bh p1).bind fun f=>
 some (p0.Col==(w64 (f-1))))).bind fun a=>
 some (⟨c,e,a⟩:ai)
def dp (p0:ag):Option Int:=
 (idx p0.L 0).bind fun a=>
 some (a.Cells.length:Int)
def bY (p0:ag):Option ag:=
 (dp p0).bind fun a=>
 (go p0.At a (p0.L.length:Int)).bind fun b=>
 some (⟨p0.L,b,p0.Auto⟩:ag)
def eZ (p0:ag):Option ag:=
 (bY p0).bind fun a=>
 if decide ((w64 (a.At.Row+1))<(a.L.length:Int)) then
 some (⟨a.L,(⟨(w64 (a.At.Row+1)),a.At.Col,false⟩:ai),a.Auto⟩:ag)
 else
 (gk a.L 0 (a.L.length:Int) 1 true).bind fun b=>
 some (⟨b,(⟨a.At.Row,a.At.Col,false⟩:ai),a.Auto⟩:ag)
def cu (p0:ag) (p1:Int) (p2:ah):Option ag:=
 (app ([]:List ah) p0.L).bind fun a=>
 (idx a p1).bind fun c=>
 (pJ a p1 p2).bind fun b=>
 some (⟨b,p0.At,p0.Auto⟩:ag)
def dq (p0:ag):Option ag:=
 (idx p0.L p0.At.Row).bind fun b=>
 (cu p0 p0.At.Row (⟨b.Cells,true⟩:ah)).bind fun a=>
 (eZ (⟨a.L,(⟨a.At.Row,0,false⟩:ai),a.Auto⟩:ag)).bind fun c=>
 some c
def bT (p0:ag) (p1:Int) (p2:Int) (p3:List aa):Option ag:=
 (idx p0.L p1).bind fun d=>
 (idx p0.L p1).bind fun b=>
 (iD d.Cells b.Wrap p2 p3).bind fun a=>
 (cu p0 p1 (⟨a.1,a.2⟩:ah)).bind fun c=>
 some c
def kK (p0:ai) (p1:Int) (p2:Int) (p3:Bool):Option ai:=
 (if decide (p1>1) then
 some 2
 else
 some 1).bind fun a=>
 (bh p2).bind fun b=>
 if decide (p0.Col>=(w64 (b-a))) then
 (bh p2).bind fun c=>
 some (⟨p0.Row,(w64 (c-1)),p3⟩:ai)
 else
 some (⟨p0.Row,(w64 (p0.Col+a)),false⟩:ai)
def aV (p0:ag) (p1:Int) (p2:List Int):Option (ag×ai):=
 (bY p0).bind fun c=>
 (dp c).bind fun d=>
 (if decide ((bb 1 (aR p1 2))>d) then
 some (1,([65533]:List Int))
 else
 some ((bb 1 (aR p1 2)),p2)).bind fun g=>
 (if c.At.Pending then
 (dq c).bind fun e=>
 some (e.L,e.At.Row,e.At.Col,e.At.Pending,e.Auto)
 else
 some (c.L,c.At.Row,c.At.Col,c.At.Pending,c.Auto)).bind fun a=>
 ((bw (g.1==2) (some (a.2.2.1==(w64 (d-1))))).bind fun i=>
 if i then
 if a.2.2.2.2 then
 (rep 1 (⟨0,([]:List Int)⟩:aa)).bind fun j=>
 (bT (⟨a.1,(⟨a.2.1,a.2.2.1,a.2.2.2.1⟩:ai),a.2.2.2.2⟩:ag) a.2.1 (w64 (d-1)) j).bind fun k=>
 (dq k).bind fun f=>
 some (f.L,f.At.Row,f.At.Col,f.At.Pending,f.Auto)
 else
 some (a.1,a.2.1,(w64 (d-2)),a.2.2.2.1,a.2.2.2.2)
 else
 some (a.1,a.2.1,a.2.2.1,a.2.2.2.1,a.2.2.2.2)).bind fun b=>
 (mo g.1 g.2).bind fun l=>
 (bT (⟨b.1,(⟨b.2.1,b.2.2.1,b.2.2.2.1⟩:ai),b.2.2.2.2⟩:ag) b.2.1 b.2.2.1 l).bind fun h=>
 (kK (⟨b.2.1,b.2.2.1,false⟩:ai) g.1 d h.Auto).bind fun m=>
 some ((⟨h.L,m,h.Auto⟩:ag),(⟨b.2.1,b.2.2.1,false⟩:ai))
def gp (p0:List aa) (p1:Int):Option (List aa):=
 (cm (σ:=(List aa)×Int) (τ:=(List aa)) (((p0.length:Int)-0).toNat+1) (fun a=>
 if decide (a.2<(p0.length:Int)) then
 (idx p0 a.2).bind fun b=>
 ((bw (decide (p1<(p0.length:Int))) ((idx p0 p1).bind fun g=>
 some (g.Kind==3))).bind fun d=>
 (bw d ((orE (a.2==p1) (some ((w64 (a.2+1))==p1))).bind fun f=>
 some f)).bind fun e=>
 if e then
 some (0,([]:List Int))
 else
 some (b.Kind,b.Text)).bind fun c=>
 (app a.1 ([(⟨c.1,c.2⟩:aa)]:List aa)).bind fun h=>
 some (.inl (h,(w64 (a.2+1))))
 else
 some (.inr a.1)) (([]:List aa),0)).bind fun i=>
 some i
def jY (p0:List aa) (p1:Int) (p2:Int):Option ((List aa)×Bool):=
 (orE (decide (p1<0)) (some (decide (p1>=(p0.length:Int))))).bind fun l=>
 (orE l (some (decide (p2<1)))).bind fun h=>
 if h then
 some (p0,false)
 else
 (gp p0 p1).bind fun c=>
 (cm (σ:=(List aa)×Int) (τ:=(List aa)) (((p0.length:Int)-0).toNat+1) (fun a=>
 if decide (a.2<(p0.length:Int)) then
 (if decide (a.2<p1) then
 (idx c a.2).bind fun d=>
 some (d.Kind,d.Text)
 else
 some (0,([]:List Int))).bind fun f=>
 (if (decide (a.2>=(w64 (p1+(aR p2 (w64 ((p0.length:Int)-p1)))))))=true then
 (idx c (w64 (a.2-(aR p2 (w64 ((p0.length:Int)-p1)))))).bind fun e=>
 some (e.Kind,e.Text)
 else
 some (f.1,f.2)).bind fun b=>
 ((bw ((w64 (a.2+1))==(p0.length:Int)) (some (b.1==2))).bind fun i=>
 if i then
 some (0,([]:List Int))
 else
 some (b.1,b.2)).bind fun g=>
 (app a.1 ([(⟨g.1,g.2⟩:aa)]:List aa)).bind fun k=>
 some (.inl (k,(w64 (a.2+1))))
 else
 some (.inr a.1)) (([]:List aa),0)).bind fun j=>
 some (j,true)
def jZ (p0:List aa) (p1:Int) (p2:Int):Option ((List aa)×Bool):=
 (orE (decide (p1<0)) (some (decide (p1>=(p0.length:Int))))).bind fun j=>
 (orE j (some (decide (p2<1)))).bind fun f=>
 if f then
 some (p0,false)
 else
 (gp p0 p1).bind fun h=>
 (gp h (w64 (p1+(aR p2 (w64 ((p0.length:Int)-p1)))))).bind fun b=>
 (cm (σ:=(List aa)×Int) (τ:=(List aa)) (((p0.length:Int)-0).toNat+1) (fun a=>
 if decide (a.2<(p0.length:Int)) then
 (if decide (a.2<p1) then
 (idx b a.2).bind fun c=>
 some (c.Kind,c.Text)
 else
 if (decide ((w64 (a.2+(aR p2 (w64 ((p0.length:Int)-p1)))))<(p0.length:Int)))=true then
 (idx b (w64 (a.2+(aR p2 (w64 ((p0.length:Int)-p1)))))).bind fun d=>
 some (d.Kind,d.Text)
 else
 some (0,([]:List Int))).bind fun e=>
 (app a.1 ([(⟨e.1,e.2⟩:aa)]:List aa)).bind fun i=>
 some (.inl (i,(w64 (a.2+1))))
 else
 some (.inr a.1)) (([]:List aa),0)).bind fun g=>
 some (g,true)
def gM (p0:List aa) (p1:Int):Option (List aa):=
 (rep (bb 1 (aR p1 1024)) (⟨0,([]:List Int)⟩:aa)).bind fun i=>
 (cm (σ:=(List aa)×Int) (τ:=(List aa)) (((bb 1 (aR p1 1024))-0).toNat+1) (fun a=>
 (bw (decide (a.2<(bb 1 (aR p1 1024)))) (some (decide (a.2<(p0.length:Int))))).bind fun b=>
 if b then
 ((orE (decide ((w64 (a.2+1))<(bb 1 (aR p1 1024)))) ((idx p0 a.2).bind fun f=>
 some (f.Kind != 2))).bind fun c=>
 if c then
 (idx p0 a.2).bind fun g=>
 (idx a.1 a.2).bind fun j=>
 (pJ a.1 a.2 g).bind fun e=>
 some e
 else
 some a.1).bind fun h=>
 some (.inl (h,(w64 (a.2+1))))
 else
 some (.inr a.1)) (i,0)).bind fun d=>
 some d
def gK (p0:ag) (p1:Int) (p2:Int):Option ag:=
 (bY p0).bind fun d=>
 (bh p1).bind fun f=>
 (bh p2).bind fun c=>
 (cm (σ:=(List ah)×Int) (τ:=((List ah)×Int)) ((d.At.Row-c).toNat+2) (fun a=>
 if decide (a.2>=c) then
 (slc a.1 1 a.1.length).bind fun h=>
 some (.inl (h,(w64 (a.2-1))))
 else
 some (.inr (a.1,a.2))) (d.L,d.At.Row)).bind fun e=>
 (cm (σ:=(List ah)×Int) (τ:=(List ah)) ((c-0).toNat+1) (fun b=>
 if decide (b.2<c) then
 (if decide (b.2<(e.1.length:Int)) then
 (idx e.1 b.2).bind fun i=>
 some i.Cells
 else
 some (([]:List aa))).bind fun l=>
 (gM l f).bind fun j=>
 (app b.1 ([(⟨j,false⟩:ah)]:List ah)).bind fun k=>
 some (.inl (k,(w64 (b.2+1))))
 else
 some (.inr b.1)) (([]:List ah),0)).bind fun g=>
 some (⟨g,(⟨e.2,(aR d.At.Col (w64 (f-1))),false⟩:ai),d.Auto⟩:ag)
def dV (p0:ag) (p1:Int):Option (ag×Bool):=
 (if (p1==13)=true then
 (bY p0).bind fun f=>
 some (f.L,f.At.Row,0,false,f.Auto)
 else
 some (p0.L,p0.At.Row,p0.At.Col,p0.At.Pending,p0.Auto)).bind fun b=>
 (if (p1==10)=true then
 (eZ (⟨b.1,(⟨b.2.1,b.2.2.1,b.2.2.2.1⟩:ai),b.2.2.2.2⟩:ag)).bind fun c=>
 some (c.L,c.At.Row,c.At.Col,c.At.Pending,c.Auto)
 else
 some (b.1,b.2.1,b.2.2.1,b.2.2.2.1,b.2.2.2.2)).bind fun a=>
 (if (p1==8)=true then
 (bY (⟨a.1,(⟨a.2.1,a.2.2.1,a.2.2.2.1⟩:ai),a.2.2.2.2⟩:ag)).bind fun e=>
 some (e.L,e.At.Row,(bb 0 (w64 (e.At.Col-1))),false,e.Auto)
 else
 some (a.1,a.2.1,a.2.2.1,a.2.2.2.1,a.2.2.2.2)).bind fun d=>
 (eq p1).bind fun g=>
 some ((⟨d.1,(⟨d.2.1,d.2.2.1,d.2.2.2.1⟩:ai),d.2.2.2.2⟩:ag),g)
def dK (p0:ag) (p1:Int) (p2:Int) (p3:Int) (p4:Int):Option ag:=
 (idx p0.L p1).bind fun d=>
 (idx p0.L p1).bind fun b=>
 (lK d.Cells b.Wrap p2 p3 p4).bind fun a=>
 (cu p0 p1 (⟨a.1,a.2⟩:ah)).bind fun c=>
 some c
def kJ (p0:ag) (p1:Int) (p2:Int):Option ag:=
 (idx ([2,1,3]:List Int) p2).bind fun k=>
 (dK p0 p0.At.Row k p0.At.Col 0).bind fun b=>
 (cm (σ:=Int×(List ah)×Int×Int×Bool×Bool) (τ:=((List ah)×Int×Int×Bool×Bool)) (((b.L.length:Int)-0).toNat+1) (fun a=>
 (bw (decide (a.1<(a.2.1.length:Int))) (some (p1==4))).bind fun f=>
 if f then
 ((orE (p2==2) ((bw (p2==0) (some (decide (a.1>a.2.2.1)))).bind fun h=>
 some h)).bind fun g=>
 (orE g ((bw (p2==1) (some (decide (a.1<a.2.2.1)))).bind fun j=>
 some j)).bind fun i=>
 if i then
 (dK (⟨a.2.1,(⟨a.2.2.1,a.2.2.2.1,a.2.2.2.2.1⟩:ai),a.2.2.2.2.2⟩:ag) a.1 3 0 0).bind fun d=>
 some (d.L,d.At.Row,d.At.Col,d.At.Pending,d.Auto)
 else
 some (a.2.1,a.2.2.1,a.2.2.2.1,a.2.2.2.2.1,a.2.2.2.2.2)).bind fun e=>
 some (.inl ((w64 (a.1+1)),e.1,e.2.1,e.2.2.1,e.2.2.2.1,e.2.2.2.2))
 else
 some (.inr (a.2.1,a.2.2.1,a.2.2.2.1,a.2.2.2.2.1,a.2.2.2.2.2))) (0,b.L,b.At.Row,b.At.Col,b.At.Pending,b.Auto)).bind fun c=>
 some (⟨c.1,(⟨c.2.1,c.2.2.1,c.2.2.2.1⟩:ai),c.2.2.2.2⟩:ag)
def eU (p0:ag) (p1:aJ):Option ag:=
 (bY p0).bind fun a=>
 (idx a.L a.At.Row).bind fun c=>
 (if (p1.Kind==2)=true then
 (dp (⟨a.L,(⟨a.At.Row,a.At.Col,false⟩:ai),a.Auto⟩:ag)).bind fun o=>
 (go (⟨p1.A,p1.B,false⟩:ai) o (a.L.length:Int)).bind fun h=>
 some (c.Cells,false,a.L,h.Row,h.Col,h.Pending,a.Auto)
 else
 (if (p1.Kind==3)=true then
 some (p1.Kind==3)
 else
 some (p1.Kind==4)).bind fun p=>
 if p then
 (kJ (⟨a.L,(⟨a.At.Row,a.At.Col,false⟩:ai),a.Auto⟩:ag) p1.Kind p1.A).bind fun f=>
 some (c.Cells,false,f.L,f.At.Row,f.At.Col,f.At.Pending,f.Auto)
 else
 if (p1.Kind==5)=true then
 (dK (⟨a.L,(⟨a.At.Row,a.At.Col,false⟩:ai),a.Auto⟩:ag) a.At.Row 4 a.At.Col p1.A).bind fun g=>
 some (c.Cells,false,g.L,g.At.Row,g.At.Col,g.At.Pending,g.Auto)
 else
 if (p1.Kind==6)=true then
 (jY c.Cells a.At.Col p1.A).bind fun j=>
 some (j.1,j.2,a.L,a.At.Row,a.At.Col,false,a.Auto)
 else
 if (p1.Kind==7)=true then
 (jZ c.Cells a.At.Col p1.A).bind fun i=>
 some (i.1,i.2,a.L,a.At.Row,a.At.Col,false,a.Auto)
 else
 (if (p1.Kind==8)=true then
 some (p1.Kind==8)
 else
 some (p1.Kind==9)).bind fun m=>
 if m then
 (gk a.L a.At.Row (a.L.length:Int) p1.A (p1.Kind==9)).bind fun k=>
 some (c.Cells,false,k,a.At.Row,0,false,a.Auto)
 else
 (if (p1.Kind==10)=true then
 some (p1.Kind==10)
 else
 some (p1.Kind==11)).bind fun n=>
 if n then
 (gk a.L 0 (a.L.length:Int) p1.A (p1.Kind==10)).bind fun l=>
 some (c.Cells,false,l,a.At.Row,a.At.Col,false,a.Auto)
 else
 if (p1.Kind==12)=true then
 some (c.Cells,false,a.L,a.At.Row,a.At.Col,false,p1.A != 0)
 else
 some (c.Cells,false,a.L,a.At.Row,a.At.Col,false,a.Auto)).bind fun b=>
 (if b.2.1 then
 (cu (⟨b.2.2.1,(⟨b.2.2.2.1,b.2.2.2.2.1,b.2.2.2.2.2.1⟩:ai),b.2.2.2.2.2.2⟩:ag) a.At.Row (⟨b.1,false⟩:ah)).bind fun d=>
 some (d.L,d.At.Row,d.At.Col,d.At.Pending,d.Auto)
 else
 some (b.2.2.1,b.2.2.2.1,b.2.2.2.2.1,b.2.2.2.2.2.1,b.2.2.2.2.2.2)).bind fun e=>
 some (⟨e.1,(⟨e.2.1,e.2.2.1,e.2.2.2.1⟩:ai),e.2.2.2.2⟩:ag)
end Go.Proofs.YtkgjnbiiiifoaaaGreatDoor
namespace Go.Lt
theorem aQ {n:Int}(h: -9223372036854775808<=n/\n<=9223372036854775807):w64 n=n:=by
 unfold w64;rw [C3];omega
theorem zG {n:Int}(h: -2147483648<=n/\n<=2147483647):w32 n=n:=by
 unfold w32;rw [IntKind.wrap_i32];omega
theorem bsm {α β:Type}(a:α) (f:α->Option β):(some a).bind f=f a:=by simp
theorem oe {σ τ:Type}{step:σ->Option (σ ⊕ τ)}(Inv:σ->Prop) (μ:σ->Nat) (post:τ->Prop)
  (h:∀s,Inv s->(∃s',step s=some (.inl s')/\Inv s'/\μ s' < μ s)\/∃t,step s=some (.inr t)/\post t):
  ∀(fuel:Nat) (s:σ),Inv s->μ s<fuel->∃t,cm fuel step s=some t/\post t:=by
 intro fuel
 induction fuel with
 | zero=>intro s _ hm; omega
 | succ k ih=>
  intro s hs hm;rcases h s hs with ⟨s',h1,h2,h3⟩|⟨t,h1,h2⟩
  ·obtain ⟨t,h4,h5⟩:=ih s' h2 (by omega);exact ⟨t,by simp [cm,h1,h4],h5⟩
  ·exact ⟨t,by simp [cm,h1],h2⟩
theorem qF {σ τ:Type}{step:σ->Option (σ ⊕ τ)}(Inv:σ->Prop) (μ:σ->Nat){t:τ}
  (h:∀s,Inv s->(∃s',step s=some (.inl s')/\Inv s'/\μ s' < μ s)\/step s=some (.inr t)){fuel:Nat}{s:σ}(h0:Inv s) (hm:μ s<fuel):cm fuel step s=some t:=by
 obtain ⟨t',h1,h2⟩:=oe Inv μ (fun x=>x=t) (fun s hs=>(h s hs).imp id fun h=>⟨t,h,rfl⟩) fuel s h0 hm;rw [h1,h2]
theorem bu (a b:Bool):orE a (some b)=some (a || b):=by cases a <;> rfl
theorem aX (a b:Bool):bw a (some b)=some (a && b):=by cases a <;> rfl
theorem xG (x:Option Bool):orE true x=some true:=rfl
theorem dR (x:Option Bool):orE false x=x:=rfl
theorem jf (x:Option Bool):bw true x=x:=rfl
theorem kh (x:Option Bool):bw false x=some false:=rfl
theorem xj {α:Type}(xs:List α) (i:Nat):idx xs (i:Int)=xs[i]? :=by
 unfold idx;rw [ae (Ml i)];rfl
theorem bd {α:Type}{xs:List α}{i:Nat}(h:i<xs.length):idx xs (i:Int)=some xs[i]:=by
 rw [xj,af h]
theorem kR {α:Type}{xs:List α}{i:Nat}(h:i<xs.length) (x:α):pJ xs (i:Int) x=some (xs.set i x):=by
 unfold pJ;rw [ae ⟨Ml i,by omega⟩];rfl
theorem fg {α:Type}{xs ys:List α}(h:xs.length+ys.length<=1099511627776):app xs ys=some (xs++ys):=by
 unfold app far;rw [ae h]
theorem qD {α:Type}{n:Int}(x:α) (h:0<=n/\n<=1099511627776):rep n x=some (List.replicate n.toNat x):=by
 unfold rep far;rw [ae (by omega)]
theorem ui {α:Type}{xs:List α}{i j:Nat}(h:i<=j) (h2:j<=xs.length):slc xs i j=some ((xs.drop i).take (j-i)):=by
 unfold slc;rw [ae (by omega)]
 congr 2
 omega
theorem iC (x y:Int):bb x y=max x y:=by unfold bb; split <;> omega
theorem ey (x y:Int):aR x y=min x y:=by unfold aR; split <;> omega
theorem qG {τ:Type}{step:Int->Option (Int ⊕ τ)}{n:Nat}(hn:n<=9223372036854775807) (post:τ->Prop) (Inv:Nat->Prop) (h0:Inv 0)
  (h:∀i:Nat,i<n->Inv i->(step i=some (.inl ((i+1:Nat):Int))/\Inv (i+1))\/∃t,step i=some (.inr t)/\post t)
  (hend:Inv n->∃t,step n=some (.inr t)/\post t):∃t,cm (((n:Int)-0).toNat+1) step 0=some t/\post t:=by
 refine oe (fun s:Int=>∃i:Nat,s=(i:Int)/\i<=n/\Inv i) (fun s:Int=>n-s.toNat) post (fun s ⟨i,hs,hi,hI⟩=>?_) _ _ ⟨0,rfl,dk _,h0⟩ (by simp);subst hs;rcases aE i n with hlt|hge
 ·rcases h i hlt hI with ⟨h1,h2⟩|h1
  ·exact .inl ⟨_,h1,⟨i+1,rfl,hlt,h2⟩,by simp; omega⟩
  ·exact .inr h1
 ·obtain rfl:i=n:=by omega
  exact .inr (hend hI)
theorem eV {σ τ:Type}{step:σ->Option (σ ⊕ τ)}{n:Nat}(Inv:Nat->σ->Prop) (post:τ->Prop)
  (h:∀i s,i<n->Inv i s->(∃s',step s=some (.inl s')/\Inv (i+1) s')\/∃t,step s=some (.inr t)/\post t)
  (hend:∀s,Inv n s->∃t,step s=some (.inr t)/\post t){fuel:Nat}{s:σ}(h0:Inv 0 s) (hf:n<fuel):∃t,cm fuel step s=some t/\post t:=by
 have key:∀fuel i s,i<=n->n-i<fuel->Inv i s->∃t,cm fuel step s=some t/\post t:=by
  intro fuel
  induction fuel with
  | zero=>intro i s _ hm; omega
  | succ k ih=>
   intro i s hi hm hs;rcases aE i n with hlt|hge
   ·rcases h i s hlt hs with ⟨s',h1,h2⟩|⟨t,h1,h2⟩
    ·obtain ⟨t,h4,h5⟩:=ih (i+1) s' hlt (by omega) h2;exact ⟨t,by simp [cm,h1,h4],h5⟩
    ·exact ⟨t,by simp [cm,h1],h2⟩
   ·obtain rfl:i=n:=by omega
    obtain ⟨t,h1,h2⟩:=hend s hs;exact ⟨t,by simp [cm,h1],h2⟩
 exact key fuel 0 s (dk _) (by omega) h0
theorem AG {α β:Type}{x:Option α}{k:α->Option β}{a:α}{r:Option β}(h:x=some a) (h2:k a=r):x.bind k=r:=by rw [h]; exact h2
theorem jH {σ τ β:Type}{step:σ->Option (σ ⊕ τ)}{n:Nat}(Inv:Nat->σ->Prop) (post:τ->Prop){fuel:Nat}{s:σ}{k:τ->Option β}{r:Option β}
  (h:∀i s,i<n->Inv i s->(∃s',step s=some (.inl s')/\Inv (i+1) s')\/∃t,step s=some (.inr t)/\post t)
  (hend:∀s,Inv n s->∃t,step s=some (.inr t)/\post t) (h0:Inv 0 s) (hf:n<fuel) (hk:∀t,post t->k t=r):(cm fuel step s).bind k=r:=by
 obtain ⟨t,h1,h2⟩:=eV Inv post h hend h0 hf;rw [h1];exact hk t h2
theorem jG {σ τ β:Type}{step:σ->Option (σ ⊕ τ)}{n:Nat}(Inv:Nat->σ->Prop) (post:τ->Prop){fuel:Nat}{s:σ}{k:τ->Option β}{p:β->Prop}
  (h:∀i s,i<n->Inv i s->(∃s',step s=some (.inl s')/\Inv (i+1) s')\/∃t,step s=some (.inr t)/\post t)
  (hend:∀s,Inv n s->∃t,step s=some (.inr t)/\post t) (h0:Inv 0 s) (hf:n<fuel) (hk:∀t,post t->∃r,k t=some r/\p r):∃r,(cm fuel step s).bind k=some r/\p r:=by
 obtain ⟨t,h1,h2⟩:=eV Inv post h hend h0 hf;rw [h1];exact hk t h2
theorem xQ {α τ:Type}{step:List α×Int->Option (List α×Int ⊕ τ)}{n fuel:Nat}(f:Nat->α){t:τ}
  (h:∀i,i<n->step ((List.range i).map f,(i:Int))=some (.inl ((List.range i).map f++ [f i],((i+1:Nat):Int))))
  (hend:step ((List.range n).map f,(n:Int))=some (.inr t)) (hf:n<fuel):cm fuel step ([],0)=some t:=by
 obtain ⟨t',h1,h2⟩:=eV (step:=step) (n:=n) (fuel:=fuel) (s:=([],0)) (fun i s=>s=((List.range i).map f,(i:Int))) (fun t'=>t'=t)
  (fun i s hi e=>by subst e; exact .inl ⟨_,h i hi,by rw [lY,bK]; rfl⟩) (fun s e=>by subst e; exact ⟨t,hend,rfl⟩) rfl hf
 rw [h1,h2]
theorem cM {i n:Nat}(h:i<n) (hn:n<=9223372036854775807):w64 ((i:Int)+1)=((i+1:Nat):Int):=by
 rw [aQ (by omega)];simp
theorem dlt {i n:Nat}(h:i<n):decide ((i:Int)<(n:Int))=true:=by simp; exact h
theorem dnl (n:Nat):decide ((n:Int)<(n:Int))=false:=by simp
end Go.Lt
namespace Go.Proofs.YtkgjnbiiiifoaaaGreatDoor
open Go Go.Lt
def bl:aa:=⟨0,[]⟩
def vld (r:Int):Bool:=decide (0<=r) && decide (r<=1114111) && (decide (r<55296) || decide (r>57343))
theorem zo (r:Int):dN r=some (vld r):=by
 simp only [dN,aX,bu,bsm,vld,CG]
theorem pX (r:Int):dU r=some (vld r):=by
 simp only [dU,aX,bu,bsm,vld,aK];rw [ci];simp;omega
def rgt (c:aa):Bool:=
 if c.Kind=0\/c.Kind=3 then c.Text.isEmpty else (decide (c.Kind=1) || decide (c.Kind=2)) && decide (1<=c.Text.length) && decide (c.Text.length<=16) && c.Text.all vld
theorem ud {α:Type}(p:α->Bool) (l:List α) (i:Nat) (h:i<l.length):(l.take (i+1)).all p=((l.take i).all p && p l[i]):=by
 rw [ak h,List.all_append];simp
theorem vH {α:Type}{p:α->Bool}{l:List α}{i:Nat}(h:i<l.length) (hp:p l[i]=false):l.all p=false:=by
 rw [List.all_eq_false];exact ⟨_,ay h,by simp [hp]⟩
theorem wI {α:Type}(l:List α):((l.length:Int)==0)=l.isEmpty:=by
 cases l <;> simp <;> omega
theorem Ea (c:aa):eD c=some (rgt c):=by
 unfold eD rgt;simp only [bu,aX,bsm];by_cases h1:c.Kind=0\/c.Kind=3
 ·have e:(c.Kind==0 || c.Kind==3)=true:=by rcases h1 with h|h <;> simp [h]
  rw [ae e,ae h1,wI]
 ·have e:(c.Kind==0 || c.Kind==3)=false:=by simp; omega
  rw [ab (by rw [e]; simp),ab h1];by_cases h2:((c.Kind=1\/c.Kind=2)/\1<=c.Text.length/\c.Text.length<=16)
  ·have e2:(((c.Kind != 1 && c.Kind != 2) || decide ((c.Text.length:Int)<1)) || decide ((c.Text.length:Int)>16))=false:=by
    simp; omega
   rw [ab (by rw [e2]; simp)];obtain ⟨t,h3,h4⟩:=qG (τ:=Bool ⊕ Unit) (n:=c.Text.length) (by omega) (fun t=>match t with|.inl b=>b=c.Text.all vld|.inr _=>c.Text.all vld=true) (fun i=>(c.Text.take i).all vld=true) (by simp)
    (step:=fun s_44=>
     if decide (s_44<(c.Text.length:Int)) then
     (idx c.Text s_44).bind fun x_54=>
     (dN x_54).bind fun x_56=>
     if (!x_56)=true then
     some (.inr (.inl false))
     else
     some (.inl ((w64 (s_44+1))))
     else
     some (.inr (.inr ())))
    (fun i hi hI=>by
     have e3:w64 ((i:Int)+1)=((i+1:Nat):Int):=by rw [aQ (by omega)]; simp
     simp only [pi,hi,lI,bA,bd hi,bsm,zo,e3]
     cases hv:vld c.Text[i] with
     | true=>exact .inl ⟨by simp,by rw [ud _ _ _ hi,hI,hv]; rfl⟩
     | false=>exact .inr ⟨.inl false,by simp,(vH hi hv).symm⟩)
    (fun hI=>⟨.inr (),by simp,by simpa using hI⟩)
   rw [h3];simp only [bsm];have e4:(decide (c.Kind=1) || decide (c.Kind=2))=true:=by simp; exact h2.1
   rw [e4,yc h2.2.1,yc h2.2.2]
   cases t with
   | inl b=>simp only at h4; simp [h4]
   | inr u=>simp only at h4; simp [h4]
  ·have e2:(((c.Kind != 1 && c.Kind != 2) || decide ((c.Text.length:Int)<1)) || decide ((c.Text.length:Int)>16))=true:=by
    simp; omega
   rw [ae e2]
   congr 1
   symm
   simp only [mu,ny,eB];omega
theorem BQ (r:Int):jQ r=some (!vld r):=by simp [jQ,pX]
theorem yL (l:List Int) (hl:l.length<=9223372036854775807):bR l=some (!l.all vld):=by
 unfold bR cL;obtain ⟨t,h3,h4⟩:=qG (τ:=Int ⊕ Unit) (n:=l.length) (by omega) (fun t=>match t with|.inl i=>0<=i/\l.all vld=false|.inr _=>l.all vld=true) (fun i=>(l.take i).all vld=true) (by simp)
  (step:=fun s_7=>
   if decide (s_7<(l.length:Int)) then
   (idx l s_7).bind fun x_16=>
   (jQ x_16).bind fun x_18=>
   if x_18 then
   some (.inr (.inl s_7))
   else
   some (.inl ((w64 (s_7+1))))
   else
   some (.inr (.inr ())))
  (fun i hi hI=>by
   have e3:w64 ((i:Int)+1)=((i+1:Nat):Int):=by rw [aQ (by omega)]; simp
   simp only [pi,hi,lI,bA,bd hi,bsm,BQ,e3]
   cases hv:vld l[i] with
   | true=>exact .inl ⟨by simp,by rw [ud _ _ _ hi,hI,hv]; rfl⟩
   | false=>exact .inr ⟨.inl i,by simp,by omega,vH hi hv⟩)
  (fun hI=>⟨.inr (),by simp,by simpa using hI⟩)
 rw [h3];simp only [bsm]
 cases t with
 | inl b=>simp only at h4; simp [h4.1,h4.2]
 | inr u=>simp only at h4; simp [h4]
theorem ye (c:aa):kb c=some (rgt c):=by
 unfold kb rgt;by_cases h1:c.Kind=0\/c.Kind=3
 ·rw [ae h1];rcases h1 with h|h <;> simp [h,wI]
 ·have n0:(c.Kind==0)=false:=by simp; omega
  have n3:(c.Kind==3)=false:=by simp; omega
  rw [ab h1];simp only [n0,n3,aj,aU,bsm];by_cases h2:c.Kind=1\/c.Kind=2
  ·have e:(if (c.Kind==1)=true then some (c.Kind==1) else some (c.Kind==2):Option Bool)=some true:=by rcases h2 with h|h <;> simp [h]
   have e2:(decide (c.Kind=1) || decide (c.Kind=2))=true:=by simp; exact h2
   rw [e,e2];simp only [bsm,bA,aX,dy];by_cases h3:1<=c.Text.length/\c.Text.length<=16
   ·rw [yL _ (by omega)];have e4:(decide ((c.Text.length:Int)>0) && decide ((c.Text.length:Int)<=16))=true:=by simp; omega
    have e5:(decide (1<=c.Text.length) && decide (c.Text.length<=16))=true:=by simp; exact h3
    rw [e4,e5];simp [jf]
   ·have e4:(decide ((c.Text.length:Int)>0) && decide ((c.Text.length:Int)<=16))=false:=by simp; omega
    have e5:(decide (1<=c.Text.length) && decide (c.Text.length<=16))=false:=by simp; omega
    rw [e4,e5];simp [kh]
  ·have n1:(c.Kind==1)=false:=by simp; omega
   have n2:(c.Kind==2)=false:=by simp; omega
   have e2:(decide (c.Kind=1) || decide (c.Kind=2))=false:=by simp; omega
   rw [e2];simp [n1,n2]
def kd (l:List aa) (i:Nat):Int:=match l[i]? with|some c=>c.Kind|none=>0
theorem jy {l:List aa}{i:Nat}(h:i<l.length):kd l i=l[i].Kind:=by simp [kd,af h]
theorem lJ {l:List aa}{i:Nat}(h:l.length<=i):kd l i=0:=by simp [kd,az h]
def Snd (l:List aa):Prop:=∀i (h:i<l.length),rgt l[i]=true/\(l[i].Kind=2->kd l (i+1)=3)/\(l[i].Kind=3->0<i/\kd l (i-1)=2)
theorem FQ (l:List aa) (i:Int):dB l i=some (if 0<=i then kd l i.toNat else 0):=by
 unfold dB;simp only [bu,bsm];by_cases h0:i<0
 ·rw [ae (by simp [h0]),ab (by omega)]
 ·by_cases h1:i<l.length
  ·obtain ⟨k,rfl⟩:=Jq (show 0<=i by omega);have hk:k<l.length:=by omega
   rw [ab (by simp; omega),ae (by omega),bd hk];simp [jy hk]
  ·rw [ae (by simp; omega),ae (by omega),lJ (by omega)]
theorem D9 (l:List aa) (hl:l.length<=9223372036854775807):∃b,fI l=some b/\(b=true↔Snd l):=by
 unfold fI;obtain ⟨t,h3,h4⟩:=qG (τ:=Bool ⊕ Unit) (n:=l.length) (by omega) (fun t=>match t with|.inl b=>b=false/\¬Snd l|.inr _=>Snd l)
  (fun i=>∀j (h:j<l.length),j<i->rgt l[j]=true/\(l[j].Kind=2->kd l (j+1)=3)/\(l[j].Kind=3->0<j/\kd l (j-1)=2)) (fun j _ h=>by omega)
  (step:=fun s_5=>
   if decide (s_5<(l.length:Int)) then
   (idx l s_5).bind fun x_13=>
   (eD x_13).bind fun x_15=>
   (orE (!x_15) ((idx l s_5).bind fun x_21=>
   (bw (x_21.Kind==2) ((dB l (w64 (s_5+1))).bind fun x_30=>
   some (x_30 != 3))).bind fun d_25=>
   some d_25)).bind fun d_17=>
   (orE d_17 ((idx l s_5).bind fun x_36=>
   (bw (x_36.Kind==3) ((dB l (w64 (s_5-1))).bind fun x_45=>
   some (x_45 != 2))).bind fun d_40=>
   some d_40)).bind fun d_32=>
   if d_32 then
   some (.inr (.inl false))
   else
   some (.inl ((w64 (s_5+1))))
   else
   some (.inr (.inr ())))
  (fun i hi hI=>by
   have e3:w64 ((i:Int)+1)=((i+1:Nat):Int):=by rw [aQ (by omega)]; simp
   have e4:w64 ((i:Int)-1)=(i:Int)-1:=aQ (by omega);simp only [pi,hi,lI,bA,bd hi,bsm,Ea,FQ,e3,e4,aX,bu];by_cases hk:rgt l[i]=true/\(l[i].Kind=2->kd l (i+1)=3)/\(l[i].Kind=3->0<i/\kd l (i-1)=2)
   ·refine .inl ⟨?_,fun j h hj=>?_⟩
    ·rw [ab];obtain ⟨h1,h2,h5⟩:=hk;simp only [h1,cP,dz,aB,ao,aS,kL,zt,JX,Bj,Decidable.not_not];refine ⟨fun h=>?_,fun h=>?_⟩
     ·rw [ae (by omega)]; simpa using h2 h
     ·obtain ⟨h6,h7⟩:=h5 h;rw [ae (by omega),show ((i:Int)-1).toNat=i-1 by omega]; exact h7
    ·by_cases hji:j=i
     ·subst hji; exact hk
     ·exact hI j h (by omega)
   ·refine .inr ⟨.inl false,?_,rfl,fun hs=>hk (hs i hi)⟩;rw [ae]
    cases h1:rgt l[i] with
    | false=>simp
    | true=>
     simp only [h1,xq] at hk;have hk:(l[i].Kind=2/\¬kd l (i+1)=3)\/(l[i].Kind=3/\¬(0<i/\kd l (i-1)=2)):=by
      by_cases hA:l[i].Kind=2->kd l (i+1)=3
      ·exact .inr (Classical.not_imp.1 fun hB=>hk ⟨hA,hB⟩)
      ·exact .inl (Classical.not_imp.1 hA)
     simp only [cP,dz,aB,ao,aS,kL,zt];rcases hk with ⟨h,h2⟩|⟨h,h2⟩
     ·refine .inl ⟨h,?_⟩;rw [ae (by omega)]; simpa using h2
     ·refine .inr ⟨h,?_⟩;by_cases h0:i=0
      ·subst h0; simp
      ·rw [ae (by omega),show ((i:Int)-1).toNat=i-1 by omega];exact fun h3=>h2 ⟨by omega,h3⟩)
  (fun hI=>⟨.inr (),by simp,fun j h=>hI j h h⟩)
 rw [h3];simp only [bsm]
 cases t with
 | inl b=>exact ⟨b,rfl,by simp only at h4; rw [h4.1]; simp [h4.2]⟩
 | inr u=>exact ⟨true,rfl,by simpa using h4⟩
theorem yd (l:List aa) (hl:l.length<=9223372036854775807):∃b,jm l=some b/\(b=true↔Snd l):=by
 unfold jm
 let ld:Nat->Bool:=fun i=>match i with|0=>false|k+1=>decide (kd l k=2)
 have key:∀i (h:i<l.length),((rgt l[i]=true/\(ld i=decide (l[i].Kind=3)))↔rgt l[i]=true/\(l[i].Kind=3->0<i/\kd l (i-1)=2)/\(0<i->kd l (i-1)=2->l[i].Kind=3)):=fun i h=>by
  cases i with
  | zero=>simp [ld]
  | succ k=>simp only [ld,AK,decide_eq_decide]; constructor <;> (rintro ⟨a,b⟩; exact ⟨a,by omega⟩)
 have snd:Snd l↔(∀i (h:i<l.length),rgt l[i]=true/\ld i=decide (l[i].Kind=3))/\ld l.length=false:=by
  constructor
  ·intro hs;refine ⟨fun i h=>(key i h).2 ⟨(hs i h).1,(hs i h).2.2,fun h0 h2=>?_⟩,?_⟩
   ·have:=(hs (i-1) (by omega)).2.1 (by rw [<-jy]; exact h2);rw [show i-1+1=i by omega,jy h] at this;exact this
   ·cases hn:l.length with
    | zero=>rfl
    | succ k=>
     simp only [ld,eB];intro h2;have:=(hs k (by omega)).2.1 (by rw [<-jy]; exact h2);rw [lJ (by omega)] at this;cases this
  ·rintro ⟨h1,h2⟩ i h;have hk:=(key i h).1 (h1 i h);refine ⟨hk.1,fun h3=>?_,hk.2.1⟩;by_cases hn:i+1<l.length
   ·have:=((key (i+1) hn).1 (h1 (i+1) hn)).2.2 (by omega) (by rw [AK,jy h]; exact h3);rw [jy hn]; exact this
   ·exfalso
    have e:l.length=i+1:=by omega
    rw [e] at h2;simp only [ld,eB] at h2;rw [jy h] at h2;exact h2 h3
 obtain ⟨t,h3,h4⟩:=oe (τ:=Bool ⊕ Bool) (fun s:Bool×Int=>∃i:Nat,s=(ld i,(i:Int))/\i<=l.length/\∀j (h:j<l.length),j<i->rgt l[j]=true/\ld j=decide (l[j].Kind=3)) (fun s=>l.length-s.2.toNat)
  (fun t=>match t with|.inl b=>b=false/\¬Snd l|.inr b=>(b=false↔Snd l))
  (step:=fun s_9=>
   if decide (s_9.2<(l.length:Int)) then
   (idx l s_9.2).bind fun x_12=>
   (kb x_12).bind fun x_18=>
   (orE (!x_18) (some (!(s_9.1==(x_12.Kind==3))))).bind fun d_20=>
   if d_20 then
   some (.inr (.inl false))
   else
   some (.inl (x_12.Kind==2,(w64 (s_9.2+1))))
   else
   some (.inr (.inr s_9.1)))
  (by
   rintro s ⟨i,rfl,hi,hI⟩;rcases aE i l.length with hlt|hge
   ·have e3:w64 ((i:Int)+1)=((i+1:Nat):Int):=by rw [aQ (by omega)]; simp
    simp only [pi,hlt,lI,bA,bd hlt,bsm,ye,bu,e3];by_cases hk:rgt l[i]=true/\ld i=decide (l[i].Kind=3)
    ·refine .inl ⟨_,?_,⟨i+1,rfl,hlt,fun j h hj=>?_⟩,?_⟩
     ·rw [ab]
      ·simp only [ld,jy hlt]; rfl
      ·rw [hk.1,hk.2]; simp; rfl
     ·by_cases hji:j=i
      ·subst hji; exact hk
      ·exact hI j h (by omega)
     ·simp; omega
    ·refine .inr ⟨.inl false,?_,rfl,fun hs=>hk ((snd.1 hs).1 i hlt)⟩;rw [ae]
     cases h1:rgt l[i] with
     | false=>simp
     | true=>
      simp only [h1,xq] at hk;simp only [cP,dz,cy,fe,zt];exact hk
   ·obtain rfl:i=l.length:=by omega
    refine .inr ⟨.inr (ld l.length),by simp,?_⟩;simp only;rw [snd];exact ⟨fun h=>⟨fun j hj=>hI j hj hj,h⟩,fun h=>h.2⟩) (((l.length:Int)-0).toNat+1) (false,0) ⟨0,rfl,dk _,fun j _ h=>by omega⟩ (by simp)
 rw [h3];simp only [bsm]
 cases t with
 | inl b=>exact ⟨b,rfl,by simp only at h4; rw [h4.1]; simp [h4.2]⟩
 | inr b=>exact ⟨!b,rfl,by simp only at h4; rw [<-h4]; cases b <;> simp⟩
theorem DU (a:List Int) (ha:a.length<=9223372036854775807) (b:List Int):∃t,gt a b=some t/\(t=true↔a=b):=by
 unfold gt;by_cases hl:a.length=b.length
 ·rw [ab (by simp [hl])];obtain ⟨t,h3,h4⟩:=qG (τ:=Bool ⊕ Unit) (n:=a.length) (by omega) (fun t=>match t with|.inl b'=>b'=false/\a≠b|.inr _=>a=b) (fun i=>∀j,j<i->a[j]? = b[j]?) (fun j h=>by omega)
   (step:=fun s_13=>
    if decide (s_13<(a.length:Int)) then
    (idx a s_13).bind fun x_21=>
    (idx b s_13).bind fun x_25=>
    if (x_21 != x_25)=true then
    some (.inr (.inl false))
    else
    some (.inl ((w64 (s_13+1))))
    else
    some (.inr (.inr ())))
   (fun i hi hI=>by
    have e3:w64 ((i:Int)+1)=((i+1:Nat):Int):=by rw [aQ (by omega)]; simp
    simp only [pi,hi,lI,bA,bd hi,bd (show i<b.length by omega),bsm,e3];by_cases hk:a[i]=b[i]
    ·refine .inl ⟨by rw [ab (by simp [hk])],fun j hj=>?_⟩;by_cases hji:j=i
     ·subst hji; rw [af hi,af (show j<b.length by omega),hk]
     ·exact hI j (by omega)
    ·exact .inr ⟨.inl false,by rw [ae (by simpa using hk)],rfl,fun e=>hk (by subst e; rfl)⟩)
   (fun hI=>⟨.inr (),by simp,by
    apply bi;intro j;rcases aE j a.length with h|h
    ·exact hI j h
    ·rw [az h,az (by omega)]⟩)
  rw [h3];simp only [bsm]
  cases t with
  | inl b'=>exact ⟨b',rfl,by simp only at h4; rw [h4.1]; simp [h4.2]⟩
  | inr u=>exact ⟨true,rfl,by simpa using h4⟩
 ·rw [ae (by simp; omega)];exact ⟨false,rfl,by simp; intro e; subst e; exact hl rfl⟩
def Sht (l:List aa):Prop:=∀i (h:i<l.length),l[i].Text.length<=1000000
theorem Snd.sht {l:List aa}(h:Snd l):Sht l:=fun i hi=>by
 have:=(h i hi).1;unfold rgt at this;split at this
 ·have e:l[i].Text= []:=by simpa using this
  rw [e]; simp
 ·simp at this; omega
def gF (r:Int):Int:=if vld r=true then r else 65533
def fx (t:List Int):List Int:=(t.take 16).map gF
def dD (wide:Int) (t:List Int):List aa:=
 if t= [] then (if wide>1 then [bl,bl] else [bl]) else if wide>1 then [⟨2,t⟩,⟨3,[]⟩] else [⟨1,t⟩]
theorem AU (r:Int):vld (gF r)=true:=by
 unfold gF;split
 ·assumption
 ·rfl
theorem Kf (t:List Int):∀x∈fx t,vld x=true:=fun x hx=>by
 obtain ⟨y,_,rfl⟩:=List.mem_map.1 hx;exact AU y
theorem Kg (t:List Int):(fx t).length<=16:=by simp [fx]; omega
theorem Dp (t:List Int):(fx t).length=min 16 t.length:=by simp [fx]
theorem FM {k:Int}(hk:k=1\/k=2){t:List Int}(h1:1<=t.length) (h2:t.length<=16) (hv:∀x∈t,vld x=true):rgt ⟨k,t⟩=true:=by
 unfold rgt;rw [ab (by simp; omega)];simp only [ao,aB,am,vJ];exact ⟨⟨⟨hk,h1⟩,h2⟩,hv⟩
theorem DM (wide:Int){t:List Int}(hv:∀x∈t,vld x=true) (h2:t.length<=16):Snd (dD wide t):=by
 unfold dD;have hb:rgt bl=true:=rfl;have h3:rgt ⟨3,[]⟩=true:=rfl;by_cases ht:t= []
 ·rw [ae ht];split
  ·intro i hi
   match i,hi with
   | 0,_=>exact ⟨hb,fun h=>by simp [bl] at h,fun h=>by simp [bl] at h⟩
   | 1,_=>exact ⟨hb,fun h=>by simp [bl] at h,fun h=>by simp [bl] at h⟩
  ·intro i hi
   match i,hi with
   | 0,_=>exact ⟨hb,fun h=>by simp [bl] at h,fun h=>by simp [bl] at h⟩
 ·rw [ab ht];have h1:1<=t.length:=by
   rcases tc t.length with h|h
   ·exact absurd (dm h) ht
   ·exact h
  split
  ·intro i hi
   match i,hi with
   | 0,_=>exact ⟨FM (.inr rfl) h1 h2 hv,fun _=>rfl,fun h=>by simp at h⟩
   | 1,_=>exact ⟨h3,fun h=>by simp at h,fun _=>⟨by omega,rfl⟩⟩
  ·intro i hi
   match i,hi with
   | 0,_=>exact ⟨FM (.inl rfl) h1 h2 hv,fun h=>by simp at h,fun h=>by simp at h⟩
theorem Cu (wide:Int) (t:List Int) (ht:t.length<=9223372036854775807):mo wide t=some (dD wide (fx t)):=by
 unfold mo;rw [qF (s:=(([]:List Int),(0:Int))) (t:=fx t) (fun st:List Int×Int=>∃i:Nat,st=((fx t).take i,(i:Int))/\i<=(fx t).length) (fun st=>(fx t).length-st.2.toNat) ?_ ⟨0,rfl,dk _⟩ (by simp [fx]; omega)]
 ·simp only [bsm,aX];unfold dD;by_cases h0:fx t= []
  ·rw [ae h0,h0];by_cases hw:wide>1
   ·simp [hw,bl]
   ·simp [hw,bl]
  ·have h1:(((fx t).length:Int)==0)=false:=by
    rw [fe];intro e;exact h0 (dm (by omega))
   rw [ab h0];simp only [h1,iB,aj,aU];by_cases hw:wide>1
   ·simp [hw]
   ·simp [hw]
 ·rintro st ⟨i,rfl,hi⟩;have hl:=Dp t;rcases aE i (fx t).length with hlt|hge
  ·refine .inl ⟨_,?_,⟨i+1,rfl,hlt⟩,by simp; omega⟩;have e3:w64 ((i:Int)+1)=((i+1:Nat):Int):=by rw [aQ (by omega)]; simp
   have hit:i<t.length:=by omega
   have d1:(decide ((i:Int)<(t.length:Int)) && decide ((i:Int)<16))=true:=by simp; omega
   have hx:(fx t)[i]=gF t[i]:=by simp [fx]
   simp only [aX,bsm,d1,bA,bd hit,zo,e3];have happ:∀x,x=gF t[i]->app ((fx t).take i) [x]=some ((fx t).take (i+1)):=fun x hxx=>by
    rw [fg (by rw [aA]; simp; omega),ak hlt,hx,hxx]
   cases hv:vld t[i] with
   | true=>
    simp only [bA];rw [happ _ (by simp [gF,hv])];rfl
   | false=>
    simp only [aj,aU];rw [happ _ (by simp [gF,hv])];rfl
  ·obtain rfl:i=(fx t).length:=by omega
   have d1:(decide (((fx t).length:Int)<(t.length:Int)) && decide (((fx t).length:Int)<16))=false:=by simp; omega
   exact .inr (by simp only [aX,bsm,d1,aj,aU]; simp)
def C4 (c:ai) (W H:Int):Prop:=(0<=c.Row/\c.Row<H)/\(0<=c.Col/\c.Col<W)/\(c.Pending=true->c.Col=W-1)
theorem GM (c:ai){W H:Int}(hW:1<=W/\W<=1024) (hH:1<=H/\H<=1024):∃b,gu c W H=some b/\(b=true↔C4 c W H):=by
 have sW:bb 1 (aR W 1024)=W:=by unfold bb aR; omega
 have sH:bb 1 (aR H 1024)=H:=by unfold bb aR; omega
 unfold gu ej fh jt;simp only [bsm,sW,sH,aX];refine ⟨_,rfl,?_⟩;rw [aQ (n:=H-1) (by omega),aQ (n:=W-1) (by omega)];simp only [ao,aS,qw];unfold C4 bb aR
 cases c.Pending with
 | true=>
  constructor
  ·rintro ⟨a,b,d⟩;have d':c.Col=W-1:=by simpa using d.symm
   omega
  ·intro h;have:=h.2.2 rfl;exact ⟨by omega,by omega,by simp [this]⟩
 | false=>
  constructor
  ·rintro ⟨a,b,_⟩;exact ⟨by omega,by omega,fun q=>by cases q⟩
  ·intro h;exact ⟨by omega,by omega,by simp⟩
theorem Ee (c:ai){W H:Int}(hW:1<=W/\W<=1024) (hH:1<=H/\H<=1024):∃b,fH c W H=some b/\(b=true↔C4 c W H):=by
 have sW:bh W=some W:=by
  unfold bh;rw [ab (by rw [am]; omega),ab (by rw [am]; omega)]
 have sH:bh H=some H:=by
  unfold bh;rw [ab (by rw [am]; omega),ab (by rw [am]; omega)]
 unfold fH;simp only [sW,sH,bsm,aX,bu];refine ⟨_,rfl,?_⟩;rw [aQ (n:=W-1) (by omega)];unfold C4;simp only [ao,aB,cy,aS,am]
 cases c.Pending with
 | true=>
  constructor
  ·rintro ⟨⟨⟨⟨a,b⟩,d⟩,e⟩,f⟩;exact ⟨⟨a,b⟩,⟨d,e⟩,fun _=>f.elim (fun q=>by cases q) id⟩
  ·rintro ⟨⟨a,b⟩,⟨d,e⟩,f⟩;exact ⟨⟨⟨⟨a,b⟩,d⟩,e⟩,.inr (f rfl)⟩
 | false=>
  constructor
  ·rintro ⟨⟨⟨⟨a,b⟩,d⟩,e⟩,f⟩;exact ⟨⟨a,b⟩,⟨d,e⟩,fun q=>by cases q⟩
  ·rintro ⟨⟨a,b⟩,⟨d,e⟩,f⟩;exact ⟨⟨⟨⟨a,b⟩,d⟩,e⟩,.inl rfl⟩
structure VwP (v:aH):Prop where
 high:v.High=(v.Lines.length:Int)
 h1:1<=v.High
 h2:v.High<=1024
 w1:1<=v.Wide
 w2:v.Wide<=1024
 cur:C4 v.At v.Wide v.High
 lines:∀l∈v.Lines,(l.Cells.length:Int)=v.Wide/\Snd l.Cells
def VwL (v:aH):Prop:=v.Lines.length<=9223372036854775807/\∀l∈v.Lines,l.Cells.length<=9223372036854775807
theorem Bb (v:aH) (hv:VwL v):∃b,fG v=some b/\(b=true↔VwP v):=by
 unfold fG;simp only [bu,bsm]
 cases hg:((((v.High != (v.Lines.length:Int) || decide (v.High<1)) || decide (v.High>1024)) || decide (v.Wide<1)) || decide (v.Wide>1024)) with
 | true=>
  rw [xG,bsm,ae rfl];refine ⟨_,rfl,fun q=>(by cases q),fun q=>?_⟩;simp only [aB,kL,am] at hg;obtain ⟨a1,a2,a3,a4,a5,_,_⟩:=q;omega
 | false=>
  simp only [ny,bne_eq_false_iff_eq,eB] at hg;obtain ⟨⟨⟨⟨a1,a2⟩,a3⟩,a4⟩,a5⟩:=hg;obtain ⟨b,b1,b2⟩:=Ee v.At (W:=v.Wide) (H:=v.High) (by omega) (by omega);rw [b1,bsm,dR,bsm]
  cases b with
  | false=>
   rw [ae (by decide)];exact ⟨_,rfl,fun q=>(by cases q),fun q=>b2.2 q.cur⟩
  | true=>
   rw [ab (by simp)];refine jG (n:=v.Lines.length) (p:=fun b=>(b=true↔VwP v)) (fun i (a:Int)=>a=(i:Int)/\∀l∈v.Lines.take i,(l.Cells.length:Int)=v.Wide/\Snd l.Cells) (fun t=>(t= .inl false/\¬∀l∈v.Lines,(l.Cells.length:Int)=v.Wide/\Snd l.Cells)\/(t= .inr ()/\∀l∈v.Lines,(l.Cells.length:Int)=v.Wide/\Snd l.Cells)) (fun i a hi hI=>?_) (fun a hI=>?_) ⟨rfl,by simp⟩ (by omega) (fun t ht=>?_)
   ·obtain ⟨rfl,h⟩:=hI;have hm:=ay hi;have hl:=hv.1;obtain ⟨z,z1,z2⟩:=D9 v.Lines[i].Cells (hv.2 _ hm);rw [ae (dlt hi),bd hi,bsm,bsm,z1,bsm];by_cases hc:(v.Lines[i].Cells.length:Int)=v.Wide/\Snd v.Lines[i].Cells
    ·left
     rw [show ((v.Lines[i].Cells.length:Int) != v.Wide)=false by simpa using hc.1,z2.2 hc.2,dR,bsm,ab (by simp),cM hi (by omega)];refine ⟨_,rfl,rfl,fun l hlm=>?_⟩;rw [ak hi] at hlm;rcases List.mem_append.1 hlm with q|q
     ·exact h l q
     ·rw [List.mem_singleton.1 q]; exact hc
    ·right
     have:orE ((v.Lines[i].Cells.length:Int) != v.Wide) (some (!z))=some true:=by
      rw [bu]
      congr 1
      cases z with
      | false=>simp
      | true=>
       have:¬(v.Lines[i].Cells.length:Int)=v.Wide:=fun q=>hc ⟨q,z2.1 rfl⟩;simpa using this
     rw [this,bsm,ae rfl];exact ⟨_,rfl,.inl ⟨rfl,fun q=>hc (q _ hm)⟩⟩
   ·obtain ⟨rfl,h⟩:=hI;rw [cC] at h;exact ⟨_,by rw [ab (by simp)],.inr ⟨rfl,h⟩⟩
   ·rcases ht with ⟨rfl,h⟩|⟨rfl,h⟩
    ·exact ⟨_,rfl,fun q=>(by cases q),fun q=>absurd q.lines h⟩
    ·exact ⟨_,rfl,fun _=>⟨a1,by omega,by omega,by omega,by omega,b2.1 rfl,h⟩,fun _=>rfl⟩
theorem B5 (l:List aa) (i:Int):lF l i=some (if 0<=i then kd l i.toNat else 0):=by
 unfold lF;simp only [bu,bsm];by_cases h0:i<0
 ·rw [ae (by simp [h0]),ab (by omega)]
 ·by_cases h1:i<l.length
  ·obtain ⟨k,rfl⟩:=Jq (show 0<=i by omega);have hk:k<l.length:=by omega
   rw [ab (by simp; omega),ae (by omega),bd hk];simp [jy hk]
  ·rw [ae (by simp; omega),ae (by omega),lJ (by omega)]
def Cd (l:List aa) (i:Nat) (h:i<l.length):Prop:=rgt l[i]=true/\(l[i].Kind=2->kd l (i+1)=3)/\(l[i].Kind=3->0<i/\kd l (i-1)=2)
theorem E2 (l:List aa) (i:Nat) (h:i<l.length) (hl:l.length<=1000000):∃e,lU l (i:Int)=some e/\(e.isNil=true↔Cd l i h):=by
 unfold lU;rw [bd h,bsm,ye,bsm];by_cases hr:rgt l[i]=true
 ·rw [hr,ab (by simp),B5,B5,aQ (n:=(i:Int)+1) (by omega),aQ (n:=(i:Int)-1) (by omega)];simp only [bsm,aX];have e1:((i:Int)+1).toNat=i+1:=by omega
  rw [ae (show 0<=(i:Int)+1 by omega),e1];by_cases h2:l[i].Kind=2
  ·by_cases h3:kd l (i+1)=3
   ·rw [h2,h3];refine ⟨Er.nil,by simp,?_⟩;simp [Er.isNil,Cd,hr,h2,h3]
   ·have:(kd l (i+1) != 3)=true:=by simpa using h3
    rw [h2,this];refine ⟨Er.sent 2,by simp,?_⟩;simp [Er.isNil,Cd,hr,h2,h3]
  ·have n2:(l[i].Kind==2)=false:=by simpa using h2
   rw [n2];simp only [iB,aj,aU,bsm];by_cases h3:l[i].Kind=3
   ·by_cases h4:0<i/\kd l (i-1)=2
    ·have e2:((i:Int)-1).toNat=i-1:=by omega
     rw [ae (show 0<=(i:Int)-1 by omega),e2,h3,h4.2];refine ⟨Er.nil,by simp,?_⟩;simp [Er.isNil,Cd,hr,h3,h4]
    ·refine ⟨Er.sent 2,?_,?_⟩
     ·have:((if 0<=(i:Int)-1 then kd l ((i:Int)-1).toNat else 0) != 2)=true:=by
       by_cases h5:0<i
       ·rw [ae (by omega),show ((i:Int)-1).toNat=i-1 by omega];simpa using fun q=>h4 ⟨h5,q⟩
       ·rw [ab (by omega)]; decide
      rw [h3,this];simp
     ·simp only [Er.isNil,Cd];constructor
      ·intro q; cases q
      ·intro q; exact absurd (q.2.2 h3) h4
   ·have n3:(l[i].Kind==3)=false:=by simpa using h3
    rw [n3];refine ⟨Er.nil,by simp,?_⟩;simp [Er.isNil,Cd,hr,h2,h3]
 ·have:rgt l[i]=false:=by simpa using hr
  rw [this,ae (by decide)];refine ⟨_,rfl,?_⟩;simp [Er.isNil,Cd,this]
theorem oB {α:Type}(xs ys:List α) (h:xs.length+ys.length<=1000000000):app xs ys=some (xs++ys):=by
 unfold app far;rw [ae (by omega)]
theorem G7 (n:Int):lE n=some (decide (1<=n) && decide (n<=1024)):=by
 unfold lE;simp [aX]
theorem GL (c:ai) (W H:Int):∃b,gu c W H=some b:=by
 unfold gu ej fh jt;simp only [bsm,aX];exact ⟨_,rfl⟩
theorem exL {σ τ:Type}{x:Option (σ ⊕ τ)}{P:σ->Prop}(h:∃r,x=some r/\∃s',r= .inl s'/\P s'):∃s',x=some (.inl s')/\P s':=by
 obtain ⟨r,e,s',rfl,p⟩:=h;exact ⟨s',e,p⟩
def Ern (es:List Er):Prop:=∀x∈es,x.isNil=false
theorem Ern.app {es:List Er}(h:Ern es){x:Er}(hx:x.isNil=false):Ern (es++ [x]):=fun y hy=>by
 rcases List.mem_append.1 hy with q|q
 ·exact h y q
 ·rw [List.mem_singleton.1 q]; exact hx
theorem G9 (v:aH) (hL:v.Lines.length<=100) (hc:∀l∈v.Lines,l.Cells.length<=400):∃es,na v=some es/\Ern es/\(es= []↔VwP v):=by
 unfold na;simp only [G7,bsm,bu];obtain ⟨E0,hE0,hEn,hE1,hE2⟩:∃E0:List Er,(if (((!(decide (1<=v.Wide) && decide (v.Wide<=1024))) || (!(decide (1<=v.High) && decide (v.High<=1024)))) || (v.High != (v.Lines.length:Int)))=true then (app ([]:List Er) ([(Er.sent 7)]:List Er)).bind fun m=>some m else some (([]:List Er)))=some E0/\Ern E0/\E0.length<=1/\(E0= []↔((1<=v.Wide/\v.Wide<=1024)/\(1<=v.High/\v.High<=1024)/\v.High=(v.Lines.length:Int))):=by
  by_cases hg:(((!(decide (1<=v.Wide) && decide (v.Wide<=1024))) || (!(decide (1<=v.High) && decide (v.High<=1024)))) || (v.High != (v.Lines.length:Int)))=true
  ·rw [ae hg,oB _ _ (by simp)];refine ⟨_,rfl,fun x hx=>by simp at hx; subst hx; rfl,by simp,?_⟩;simp only [aB,cy,mu,eB,kL] at hg;simp;omega
  ·rw [ab hg];refine ⟨_,rfl,fun x hx=>(by cases hx),by simp,?_⟩;simp only [aB,cy,mu,eB,kL] at hg;simp;omega
 rw [hE0,bsm];refine jG (n:=v.Lines.length) (p:=fun es=>Ern es/\(es= []↔VwP v))
  (fun i (a:List Er×Int)=>a.2=(i:Int)/\Ern a.1/\a.1.length<=1+i*401/\(a.1= []↔E0= []/\∀l∈v.Lines.take i,(l.Cells.length:Int)=v.Wide/\Snd l.Cells))
  (fun (t:List Er)=>Ern t/\t.length<=1+v.Lines.length*401/\(t= []↔E0= []/\∀l∈v.Lines,(l.Cells.length:Int)=v.Wide/\Snd l.Cells))
  (fun i a hi hI=>?_) (fun a hI=>?_) ⟨rfl,hEn,by simpa using hE1,by simp⟩ (by omega) (fun t ht=>?_)
 ·left
  obtain ⟨es,q⟩:=a;obtain ⟨e,hr,hn,hI⟩:=hI;simp only at e hr hn hI;subst e;have hm:=ay hi;have hl:=hc _ hm;simp only;rw [ae (dlt hi),bd hi,bsm];obtain ⟨F0,hF0,hFn,hF1,hF2⟩:∃F0:List Er,(if ((v.Lines[i].Cells.length:Int) != v.Wide)=true then (jo (i:Int) (Er.sent 0)).bind fun n=>(app es ([n]:List Er)).bind fun o=>some o else some es)=some F0/\Ern F0/\F0.length<=es.length+1/\(F0= []↔es= []/\(v.Lines[i].Cells.length:Int)=v.Wide):=by
   by_cases hw:(v.Lines[i].Cells.length:Int)=v.Wide
   ·rw [ab (by simpa using hw)];exact ⟨_,rfl,hr,by omega,by simp [hw]⟩
   ·rw [ae (by simpa using hw)];unfold jo;rw [bsm,oB _ _ (by simp; omega)];exact ⟨_,rfl,hr.app rfl,by simp,by simp [hw]⟩
  rw [hF0,bsm];refine exL (jG (n:=v.Lines[i].Cells.length)
   (fun k (b:List Er×Int)=>b.2=(k:Int)/\Ern b.1/\b.1.length<=F0.length+k/\(b.1= []↔F0= []/\∀j (h:j<v.Lines[i].Cells.length),j<k->Cd v.Lines[i].Cells j h))
   (fun (t:List Er)=>Ern t/\t.length<=F0.length+v.Lines[i].Cells.length/\(t= []↔F0= []/\Snd v.Lines[i].Cells))
   (fun k b hk hJ=>?_) (fun b hJ=>?_) ⟨rfl,hFn,by simp,by simp⟩ (by omega) (fun t ht=>?_))
  ·left
   obtain ⟨bs',q⟩:=b;obtain ⟨e,hr',hn',hJ⟩:=hJ;simp only at e hr' hn' hJ;subst e;simp only;rw [ae (dlt hk)];obtain ⟨w,w1,w2⟩:=E2 v.Lines[i].Cells k hk (by omega);rw [w1,bsm];by_cases hw:w.isNil=true
   ·rw [hw,ab (by simp),bsm,cM hk (by omega)];refine ⟨_,rfl,rfl,hr',by simp only; omega,?_⟩;simp only;rw [hJ];constructor
    ·rintro ⟨a,b⟩;refine ⟨a,fun j h hj=>?_⟩;rcases aE j k with p|p
     ·exact b j h p
     ·obtain rfl:j=k:=by omega
      exact w2.1 hw
    ·rintro ⟨a,b⟩;exact ⟨a,fun j h hj=>b j h (by omega)⟩
   ·rw [show w.isNil=false by simpa using hw,ae (by decide)];unfold jo;simp only [bsm];rw [oB _ _ (by simp; omega),bsm,bsm,cM hk (by omega)];refine ⟨_,rfl,rfl,hr'.app rfl,by simp only [ax,aM,bf]; omega,?_⟩;simp only;constructor
    ·intro q; simp at q
    ·rintro ⟨_,b⟩;exact absurd (w2.2 (b k hk (by omega))) hw
  ·obtain ⟨bs',q⟩:=b;obtain ⟨e,hr',hn',hJ⟩:=hJ;simp only at e hr' hn' hJ;subst e;refine ⟨_,by rw [ab (by simp)],hr',hn',hJ.trans ⟨fun ⟨a,b⟩=>⟨a,fun j h=>b j h h⟩,fun ⟨a,b⟩=>⟨a,fun j h _=>b j h⟩⟩⟩
  ·rw [cM hi (by omega)];have hlen:=ht.2.1;refine ⟨_,rfl,_,rfl,rfl,ht.1,by simp only; omega,?_⟩;simp only;rw [ht.2.2,hF2,hI,ak hi];simp only [qS,List.mem_singleton];constructor
   ·rintro ⟨⟨⟨a,b⟩,d⟩,e⟩;refine ⟨a,fun l hl=>?_⟩;rcases hl with q|q
    ·exact b l q
    ·subst q; exact ⟨d,e⟩
   ·rintro ⟨a,b⟩;have:=b _ (.inr rfl);exact ⟨⟨⟨a,fun l hl=>b l (.inl hl)⟩,this.1⟩,this.2⟩
 ·obtain ⟨es,q⟩:=a;obtain ⟨e,hr,hn,hI⟩:=hI;simp only at e hr hn hI;subst e;rw [cC] at hI;exact ⟨_,by rw [ab (by simp)],hr,hn,hI⟩
 ·have key:∀b:Bool,(b=true->(E0= []->C4 v.At v.Wide v.High))->(E0= []->C4 v.At v.Wide v.High->b=true)->∃r,((if (!b)=true then (app t ([(Er.sent 4)]:List Er)).bind fun g=>some g else some t).bind fun h=>some h)=some r/\Ern r/\(r= []↔VwP v):=by
   intro b h1 h2
   cases b with
   | true=>
    rw [ab (by simp),bsm];refine ⟨_,rfl,ht.1,ht.2.2.trans ⟨fun ⟨a,d⟩=>?_,fun q=>?_⟩⟩
    ·obtain ⟨p1,p2,p3⟩:=hE2.1 a;exact ⟨p3,p2.1,p2.2,p1.1,p1.2,h1 rfl a,d⟩
    ·exact ⟨hE2.2 ⟨⟨q.w1,q.w2⟩,⟨q.h1,q.h2⟩,q.high⟩,q.lines⟩
   | false=>
    have hlen:=ht.2.1;rw [ae (by decide),oB _ _ (by simp; omega),bsm,bsm];refine ⟨_,rfl,ht.1.app rfl,⟨fun q=>by simp at q,fun q=>?_⟩⟩;have:=h2 (hE2.2 ⟨⟨q.w1,q.w2⟩,⟨q.h1,q.h2⟩,q.high⟩) q.cur;cases this
  obtain ⟨b,b1⟩:=GL v.At v.Wide v.High;rw [b1,bsm];refine key b (fun hb h0=>?_) (fun h0 hb=>?_)
  ·obtain ⟨p1,p2,p3⟩:=hE2.1 h0;obtain ⟨b',c1,c2⟩:=GM v.At (W:=v.Wide) (H:=v.High) p1 p2;rw [b1] at c1;obtain rfl:=aL c1;exact c2.1 hb
  ·obtain ⟨p1,p2,p3⟩:=hE2.1 h0;obtain ⟨b',c1,c2⟩:=GM v.At (W:=v.Wide) (H:=v.High) p1 p2;rw [b1] at c1;obtain rfl:=aL c1;exact c2.2 hb
theorem E3 (v:aH) (hL:v.Lines.length<=100) (hc:∀l∈v.Lines,l.Cells.length<=400):∃b,kD v=some b/\(b=true↔VwP v):=by
 unfold kD nU;obtain ⟨es,e1,en,e2⟩:=G9 v hL hc;rw [e1,bsm]
 cases es with
 | nil=>exact ⟨_,rfl,by simp [Er.isNil]; exact e2.1 rfl⟩
 | cons x t=>
  have hx:=en x (AM ..);rw [ae (by simp),show idx (x::t) 0=some x from rfl,bsm,bsm,hx];exact ⟨_,rfl,fun q=>(by cases q),fun q=>by have:=e2.2 q; cases this⟩
end Go.Proofs.YtkgjnbiiiifoaaaGreatDoor
namespace Go.Proofs.YtkgjnbiiiifoaaaGreatDoor
structure Sg where
 some:Bool
 last:Int
 pict:Int
 conj:Int
 odd:Bool
def sg0:Sg:=⟨false,0,0,0,false⟩
def nxP (s:Int) (p:an):Int:=if p.Pict then 1 else if s=1/\p.Break=4 then 1 else if s=1/\p.Break=5 then 2 else 0
def nxC (s:Int) (p:an):Int:=if p.Conj=1 then 1 else if s=0 then 0 else if p.Conj=2 then 2 else if p.Conj=3 then s else 0
def sgN (s:Sg) (p:an):Sg:=⟨true,p.Break,nxP s.pict p,nxC s.conj p,p.Break==6 && !(s.some && s.last==6 && s.odd)⟩
def sgF (l:List an):Sg:=l.foldl sgN sg0
def sgJ (pj:Int->Int->Int) (s:Sg) (p:an):Bool:=
 s.some && ((p.Conj==1 && s.conj==2) || (p.Pict && s.pict==2) || pj s.last p.Break==1 || (pj s.last p.Break==2 && s.last==6 && s.odd))
def cj:List an->Nat->Bool
 | [],_=>false
 | x::l,n=>if x.Conj=1 then decide (0<n) else if x.Conj=2 then cj l (n+1) else if x.Conj=3 then cj l n else false
def pk:List an->Bool
 | []=>false
 | x::l=>if x.Pict then true else if x.Break=4 then pk l else false
def ri:List an->Nat
 | []=>0
 | x::l=>if x.Break=6 then ri l+1 else 0
def rj (pj:Int->Int->Int) (l:List an) (p:an):Bool:=
 match l with
 | []=>false
 | a::l'=>pj a.Break p.Break==1 || (p.Conj==1 && cj (a::l') 0) || (p.Pict && (!a.Pict && a.Break==5 && pk l')) || (pj a.Break p.Break==2 && p.Break==6 && ri (a::l') % 2==1)
def pst:List an->Int
 | []=>0
 | x::l=>nxP (pst l) x
def cst:List an->Int
 | []=>0
 | x::l=>nxC (cst l) x
def hb:List an->Int
 | []=>0
 | x::_=>x.Break
def od:List an->Bool
 | []=>false
 | x::l=>x.Break==6 && !(!l.isEmpty && hb l==6 && od l)
theorem JE (l:List an):sgF l=⟨!l.reverse.isEmpty,hb l.reverse,pst l.reverse,cst l.reverse,od l.reverse⟩:=by
 have key:∀r:List an,sgF r.reverse=⟨!r.isEmpty,hb r,pst r,cst r,od r⟩:=by
  intro r
  induction r with
  | nil=>rfl
  | cons x r ih=>
   unfold sgF at ih|-;rw [Mt,kw,ih];rfl
 have:=key l.reverse
 rwa [LK] at this
theorem JL (l:List an):pk l=decide (pst l=1):=by
 induction l with
 | nil=>rfl
 | cons x l ih=>
  unfold pk pst nxP;by_cases h1:x.Pict=true
  ·rw [ae h1,ae h1]; rfl
  ·rw [ab h1,ab h1];by_cases h2:x.Break=4
   ·rw [ae h2,ih];by_cases h3:pst l=1
    ·rw [ae ⟨h3,h2⟩]; simp [h3]
    ·rw [ab (fun q=>h3 q.1),ab (fun q=>h3 q.1)]; simp [h3]
   ·rw [ab h2,ab (fun q=>h2 q.2)];split <;> rfl
theorem Kr (l:List an) (n:Nat):cj l n=decide (cst l=2\/(cst l≠0/\0<n)):=by
 induction l generalizing n with
 | nil=>rfl
 | cons x l ih=>
  unfold cj cst nxC;by_cases h1:x.Conj=1
  ·rw [ae h1,ae h1];simp
  ·rw [ab h1,ab h1];by_cases h2:x.Conj=2
   ·rw [ae h2,ih];by_cases h0:cst l=0
    ·rw [ae h0]; simp [h0]
    ·rw [ab h0,ae h2]; simp [h0]
   ·rw [ab h2];by_cases h3:x.Conj=3
    ·rw [ae h3,ih];by_cases h0:cst l=0
     ·rw [ae h0,h0]
     ·rw [ab h0,ab h2,ae h3]
    ·rw [ab h3];by_cases h0:cst l=0
     ·rw [ae h0]; rfl
     ·rw [ab h0,ab h2,ab h3]; rfl
theorem KX (l:List an):od l=(ri l % 2==1):=by
 induction l with
 | nil=>rfl
 | cons x l ih=>
  unfold od ri;by_cases h:x.Break=6
  ·rw [ae h,ih];have hb':(x.Break==6)=true:=by simp [h]
   rw [hb',dy]
   cases l with
   | nil=>rfl
   | cons y l=>
    by_cases h2:y.Break=6
    ·have e:(hb (y::l)==6)=true:=by simp [hb,h2]
     rw [e];simp only [Mv,eK,dy];rw [ci];simp only [cy,fe,aS];omega
    ·have e:(hb (y::l)==6)=false:=by simp [hb,h2]
     rw [e];simp only [Hq,iB,eK];have:ri (y::l)=0:=by unfold ri; rw [ab h2]
     rw [this];rfl
  ·rw [ab h];simp [h]
theorem JD (pj:Int->Int->Int) (hp:∀a b,pj a b=2->(a=6↔b=6)) (l:List an) (p:an):sgJ pj (sgF l) p=rj pj l.reverse p:=by
 rw [JE];generalize l.reverse=r
 cases r with
 | nil=>rfl
 | cons a r=>
  unfold sgJ rj;simp only [Mv,eK,dy,hb];rw [Kr,JL,<-KX];have e1:(cst (a::r)==2)=decide (cst (a::r)=2\/(cst (a::r)≠0/\0<0)):=by
   rw [ci]; simp
  have e2:(pst (a::r)==2)=(!a.Pict && a.Break==5 && decide (pst r=1)):=by
   rw [ci];simp only [aS,ao,cy,am];show nxP (pst r) a=2↔_;unfold nxP;by_cases h1:a.Pict=true
   ·rw [ae h1,h1]; simp
   ·rw [ab h1];simp only [vL] at h1;by_cases h2:pst r=1/\a.Break=4
    ·rw [ae h2]; simp [h1,h2]
    ·rw [ab h2];by_cases h3:pst r=1/\a.Break=5
     ·rw [ae h3]; simp [h1,h3]
     ·rw [ab h3];simp only [h1];constructor
      ·intro e; exact absurd e (by decide)
      ·rintro ⟨⟨_,q1⟩,q2⟩; exact absurd ⟨q2,q1⟩ h3
  have e3:(pj a.Break p.Break==2 && a.Break==6 && od (a::r))=(pj a.Break p.Break==2 && p.Break==6 && od (a::r)):=by
   by_cases h:pj a.Break p.Break=2
   ·have e6:(a.Break==6)=(p.Break==6):=by
     rw [ci,aS,aS];exact hp _ _ h
    rw [e6]
   ·have e7:(pj a.Break p.Break==2)=false:=by rw [fe]; exact h
    rw [e7];rfl
  rw [e1,e2,e3]
  cases (p.Conj==1 && decide (cst (a::r)=2\/(cst (a::r)≠0/\0<0))) <;> cases (p.Pict && (!a.Pict && a.Break==5 && decide (pst r=1))) <;> cases (pj a.Break p.Break==1) <;> rfl
structure Sq (s t:Sg):Prop where
 pict:s.pict=t.pict
 conj:s.conj=t.conj
 odd:s.odd=t.odd
theorem JC {s t:Sg}(h:Sq s t) (h1:s.odd=true->s.some=true/\s.last=6) (h2:t.odd=true->t.some=true/\t.last=6) (p:an):sgN s p=sgN t p:=by
 unfold sgN;rw [h.pict,h.conj]
 congr 2
 have:(s.some && s.last==6 && s.odd)=(t.some && t.last==6 && t.odd):=by
  have ho:=h.odd;rw [ci];simp only [ao,aS];constructor
  ·rintro ⟨_,q⟩;have:=h2 (ho▸ q);exact ⟨this,ho▸ q⟩
  ·rintro ⟨_,q⟩;have:=h1 (ho▸ q);exact ⟨this,ho▸ q⟩
 rw [this]
end Go.Proofs.YtkgjnbiiiifoaaaGreatDoor
namespace Go.Proofs.YtkgjnbiiiifoaaaGreatDoor
def Hg (c:List (List Int)) (r:Int):List (List Int):=c.dropLast++ [c.getLast?.getD []++ [r]]
theorem nQ (c:List (List Int)) (x:List Int) (r:Int):Hg (c++ [x]) r=c++ [x++ [r]]:=by
 unfold Hg;simp
section
variable (pj:Int->Int->Int) (pr:Int->an)
def clS (l:List Int):List (List Int)×Sg:=l.foldl (fun a r=>(if sgJ pj a.2 (pr r)=true then Hg a.1 r else a.1++ [[r]],sgN a.2 (pr r))) ([],sg0)
def cls (l:List Int):List (List Int):=(clS pj pr l).1
def jn (l:List Int) (r:Int):Bool:=sgJ pj (sgF (l.map pr)) (pr r)
theorem uM (l:List an) (x:an):sgF (l++ [x])=sgN (sgF l) x:=by
 unfold sgF;rw [kw];rfl
theorem Lx (l:List Int):(clS pj pr l).2=sgF (l.map pr):=by
 have key:∀(l:List Int) (a:List (List Int)×Sg),(l.foldl (fun a r=>(if sgJ pj a.2 (pr r)=true then Hg a.1 r else a.1++ [[r]],sgN a.2 (pr r))) a).2=(l.map pr).foldl sgN a.2:=by
  intro l
  induction l with
  | nil=>intro a; rfl
  | cons r l ih=>intro a; rw [MK,ih,zE,MK]
 exact key l _
theorem Dy:cls pj pr []= []:=rfl
theorem qp (l:List Int) (r:Int):cls pj pr (l++ [r])=if jn pj pr l r=true then Hg (cls pj pr l) r else cls pj pr l++ [[r]]:=by
 unfold cls jn;rw [<-Lx pj];unfold clS;rw [kw];rfl
theorem zv {l:List Int}{r:Int}(h:jn pj pr l r=true):l≠ []:=by
 rintro rfl;simp [jn,sgJ,sgF,sg0] at h
end
theorem uL {P:List Int->Prop}(h0:P []) (h1:∀l r,P l->P (l++ [r])) (l:List Int):P l:=by
 have key:∀l:List Int,P l.reverse:=by
  intro l
  induction l with
  | nil=>exact h0
  | cons r l ih=>rw [Mt]; exact h1 _ _ ih
 have:=key l.reverse
 rwa [LK] at this
theorem jU {α:Type}{l:List α}(h:l≠ []):∃l0 x,l=l0++ [x]:=⟨l.dropLast,l.getLast h,(List.dropLast_concat_getLast h).symm⟩
variable {pj:Int->Int->Int}{pr:Int->an}
theorem qr (l:List Int):(cls pj pr l).flatten=l/\(∀c∈cls pj pr l,c≠ [])/\(l≠ []->cls pj pr l≠ []):=by
 refine uL (P:=fun l=>(cls pj pr l).flatten=l/\(∀c∈cls pj pr l,c≠ [])/\(l≠ []->cls pj pr l≠ [])) ⟨rfl,fun c hc=>by simp [Dy] at hc,fun h=>absurd rfl h⟩ (fun l r ih=>?_) l;obtain ⟨h1,h2,h3⟩:=ih;rw [qp];split
 ·rename_i hj
  obtain ⟨c0,x,e⟩:=jU (h3 (zv pj pr hj));rw [e] at h1 h2|-;rw [nQ];refine ⟨?_,fun c hc=>?_,fun _=>by simp⟩
  ·rw [<-h1]; simp
  ·rcases List.mem_append.1 hc with hc|hc
   ·exact h2 c (dQ _ hc)
   ·rw [List.mem_singleton.1 hc]; simp
 ·refine ⟨by rw [LV,h1]; simp,fun c hc=>?_,fun _=>by simp⟩;rcases List.mem_append.1 hc with hc|hc
  ·exact h2 c hc
  ·rw [List.mem_singleton.1 hc]; simp
theorem BN {l:List Int}{x:Int}{c0:List (List Int)}{c:List Int}(h:cls pj pr (l++ [x])=c0++ [c]):∃c',c=c'++ [x]:=by
 obtain ⟨h1,h2,_⟩:=qr (pj:=pj) (pr:=pr) (l++ [x]);rw [h] at h1 h2;obtain ⟨c',y,rfl⟩:=jU (h2 c (by simp));refine ⟨c',?_⟩;rw [LV] at h1;simp only [pg,List.flatten_nil,dY] at h1;rw [<-aO] at h1;have:=KG h1 rfl;rw [List.singleton_inj.1 this]
section
variable (pj:Int->Int->Int) (pr:Int->an)
def sts (l:List Int):List Nat:=(List.range l.length).filter fun i=> !jn pj pr (l.take i) (l.getD i 0)
theorem xr (l:List Int) (r:Int):sts pj pr (l++ [r])=sts pj pr l++(if jn pj pr l r=true then [] else [l.length]):=by
 unfold sts;rw [ax,KK,lY,Mj]
 congr 1
 ·refine List.filter_congr fun i hi=>?_;have hi:=List.mem_range.1 hi;rw [dP (by omega)]
  congr 2
  rw [aq,aq,aC hi]
 ·rw [List.filter_cons,List.filter_nil];have e1:(l++ [r]).take l.length=l:=by simp
  have e2:(l++ [r]).getD l.length 0=r:=by simp
  rw [e1,e2]
  cases jn pj pr l r <;> rfl
end
theorem Cl {l:List Int}{i:Nat}(h:i∈sts pj pr l):i<l.length:=by
 unfold sts at h;exact List.mem_range.1 (List.mem_filter.1 h).1
theorem Jy {l:List Int}(h:l≠ []):sts pj pr l≠ []:=by
 refine uL (P:=fun l=>l≠ []->sts pj pr l≠ []) (fun h=>absurd rfl h) (fun l r ih _=>?_) l h;rw [xr];split
 ·rename_i hj
  intro e;exact ih (zv pj pr hj) (by simpa using e)
 ·simp
def slx (l:List Int) (a b:Nat):List Int:=(l.drop a).take (b-a)
def pcs (l:List Int) (a:List Nat):List (List Int):=(List.range (a.length-1)).map fun i=>slx l (a.getD i 0) (a.getD (i+1) 0)
theorem xF (l:List Int) (B:List Nat) (a b:Nat):pcs l (B++ [a]++ [b])=pcs l (B++ [a])++ [slx l a b]:=by
 unfold pcs;have e1:(B++ [a]++ [b]).length-1=B.length+1:=by simp
 have e2:(B++ [a]).length-1=B.length:=by simp
 rw [e1,e2,lY,bK]
 congr 1
 ·refine dt fun i hi=>?_;have hi:=List.mem_range.1 hi;have g:∀j,j<B.length+1->(B++ [a]++ [b]).getD j 0=(B++ [a]).getD j 0:=fun j hj=>by
   rw [aq,aq,aC (by simp; omega)]
  rw [g i (by omega),g (i+1) (by omega)]
 ·simp
theorem Hy {l:List Int}{a b:Nat}(h:b<=l.length) (r:List Int):slx (l++r) a b=slx l a b:=by
 unfold slx;rcases aE a l.length with ha|ha
 ·rw [iA (by omega),dP (by simp; omega)]
 ·rw [show b-a=0 by omega,iy,iy]
theorem Df {l:List Int}{A:List Nat}(h:∀a∈A,a<=l.length) (r:List Int):pcs (l++r) A=pcs l A:=by
 unfold pcs;refine dt fun i hi=>?_;have hi:=List.mem_range.1 hi;refine Hy ?_ r;rw [aq,af (by omega)];exact h _ (ay _)
theorem A0 {l:List Int}{a:Nat}(h:a<=l.length) (r:Int):slx (l++ [r]) a (l.length+1)=slx l a l.length++ [r]:=by
 unfold slx;rw [iA h,aG (by simp; omega),aG (by simp)]
theorem HW (l:List Int):pcs l (sts pj pr l++ [l.length])=cls pj pr l:=by
 refine uL (P:=fun l=>pcs l (sts pj pr l++ [l.length])=cls pj pr l) rfl (fun l r ih=>?_) l;have hle:∀a∈sts pj pr l++ [l.length],a<=l.length:=fun a ha=>by
  rcases List.mem_append.1 ha with ha|ha
  ·exact wA (Cl ha)
  ·rw [List.mem_singleton.1 ha]; exact av _
 rw [qp,xr,ax,KK];split
 ·rename_i hj
  obtain ⟨B,a,e⟩:=jU (Jy (pj:=pj) (pr:=pr) (zv pj pr hj));rw [e] at ih hle|-;rw [dY,xF,<-ih,xF,nQ,A0 (hle a (by simp)),Df (fun x hx=>hle x (dQ _ hx))]
 ·rw [xF,Df hle,ih,A0 (av _)];simp [slx]
structure Sil (pj:Int->Int->Int) (pr:Int->an) (sil:Int->Bool):Prop where
 s:∀r,sil r=true->((pr r).Break=1\/(pr r).Break=2\/(pr r).Break=3)/\(pr r).Pict=false/\(pr r).Conj=0
 ja:∀a b,(a=1\/a=2\/a=3)->pj a b≠0->a=1/\b=2
 jb:∀a b,(b=1\/b=2\/b=3)->pj a b≠0->a=1/\b=2
 b:∀r,(pr r).Break=1\/(pr r).Break=2->sil r=true
variable {sil:Int->Bool}
theorem Sil.state (h:Sil pj pr sil) (l:List Int){x:Int}(hx:sil x=true):sgF ((l++ [x]).map pr)=⟨true,(pr x).Break,0,0,false⟩:=by
 obtain ⟨h1,h2,h3⟩:=h.s x hx;rw [bK,tf,uM];unfold sgN nxP nxC;rw [h2,h3,ab (by simp),ab (by omega),ab (by omega),ab (by omega)]
 congr 1
 ·split <;> rfl
 ·have e:((pr x).Break==6)=false:=by rw [fe]; omega
  rw [e,iB]
theorem Sil.no (h:Sil pj pr sil) (l:List Int){x r:Int}(hx:sil x=true) (hr:sil r=false):jn pj pr (l++ [x]) r=false:=by
 obtain ⟨h1,_,_⟩:=h.s x hx;unfold jn;rw [h.state l hx];have hz:pj (pr x).Break (pr r).Break=0:=Hs fun hne=>by
  have:=h.b r (.inr (h.ja _ _ h1 hne).2);rw [hr] at this;cases this
 simp [sgJ,hz]
theorem Sil.new (h:Sil pj pr sil) (l:List Int){x:Int}(hx:sil x=true) (p:an):sgN (sgF ((l++ [x]).map pr)) p=sgN sg0 p:=by
 rw [h.state l hx];exact JC (s:=⟨true,(pr x).Break,0,0,false⟩) (t:=sg0) ⟨rfl,rfl,rfl⟩ (fun e=>by simp at e) (fun e=>by simp [sg0] at e) p
theorem Sil.yes (h:Sil pj pr sil){l:List Int}{r:Int}(hr:sil r=true) (hj:jn pj pr l r=true):∃l0 x,l=l0++ [x]/\sil x=true:=by
 obtain ⟨l0,x,rfl⟩:=jU (zv pj pr hj);refine ⟨l0,x,rfl,?_⟩;obtain ⟨h1,h2,h3⟩:=h.s r hr;unfold jn at hj;rw [bK,tf,uM] at hj;have hl:(sgN (sgF (l0.map pr)) (pr x)).last=(pr x).Break:=rfl;unfold sgJ at hj;rw [h2,h3,hl] at hj;have hz:pj (pr x).Break (pr r).Break≠0:=fun e=>by
  rw [e] at hj;simp at hj
 exact h.b x (.inl (h.jb _ _ h1 hz).1)
theorem Sil.all (h:Sil pj pr sil) (l:List Int):∀c∈cls pj pr l,(∀x∈c,sil x=true)\/∀x∈c,sil x=false:=by
 refine uL (P:=fun l=>∀c∈cls pj pr l,(∀x∈c,sil x=true)\/∀x∈c,sil x=false) (fun c hc=>by simp [Dy] at hc) (fun l r ih=>?_) l;rw [qp];split
 ·rename_i hj
  obtain ⟨l0,x,rfl⟩:=jU (zv pj pr hj);obtain ⟨c0,c,e⟩:=jU ((qr (pj:=pj) (pr:=pr) (l0++ [x])).2.2 (by simp));obtain ⟨c',rfl⟩:=BN e;rw [e] at ih|-;rw [nQ];intro d hd;rcases List.mem_append.1 hd with hd|hd
  ·exact ih d (dQ _ hd)
  ·rw [List.mem_singleton.1 hd];have hc:=ih (c'++ [x]) (by simp)
   cases hr:sil r with
   | true=>
    obtain ⟨l1,y,e1,hy⟩:=h.yes hr hj;have:x=y:=List.singleton_inj.1 (KG e1 rfl);subst this
    left
    rcases hc with hc|hc
    ·intro z hz;rcases List.mem_append.1 hz with hz|hz
     ·exact hc z hz
     ·rw [List.mem_singleton.1 hz]; exact hr
    ·have:=hc x (by simp);rw [hy] at this;cases this
   | false=>
    right
    rcases hc with hc|hc
    ·have:=h.no l0 (hc x (by simp)) hr;rw [this] at hj;cases hj
    ·intro z hz;rcases List.mem_append.1 hz with hz|hz
     ·exact hc z hz
     ·rw [List.mem_singleton.1 hz]; exact hr
 ·intro d hd;rcases List.mem_append.1 hd with hd|hd
  ·exact ih d hd
  ·rw [List.mem_singleton.1 hd]
   cases hr:sil r with
   | true=>left; intro z hz; rw [List.mem_singleton.1 hz]; exact hr
   | false=>right; intro z hz; rw [List.mem_singleton.1 hz]; exact hr
end Go.Proofs.YtkgjnbiiiifoaaaGreatDoor
namespace Go.Lt
theorem zw {σ τ β:Type}{step:σ->Option (σ ⊕ τ)}{fuel:Nat}{s:σ}{k:τ->Option β}{r:Option β}(Inv:σ->Prop) (μ:σ->Nat) (post:τ->Prop)
  (h:∀s,Inv s->(∃s',step s=some (.inl s')/\Inv s'/\μ s' < μ s)\/∃t,step s=some (.inr t)/\post t) (h0:Inv s) (hf:μ s<fuel) (hk:∀t,post t->k t=r):(cm fuel step s).bind k=r:=by
 obtain ⟨t,e1,e2⟩:=oe Inv μ post h fuel s h0 hf;rw [e1];exact hk t e2
theorem EA {σ τ β:Type}{step:σ->Option (σ ⊕ τ)}{fuel:Nat}{s:σ}{k:τ->Option β}{p:β->Prop}(Inv:σ->Prop) (μ:σ->Nat) (post:τ->Prop)
  (h:∀s,Inv s->(∃s',step s=some (.inl s')/\Inv s'/\μ s' < μ s)\/∃t,step s=some (.inr t)/\post t) (h0:Inv s) (hf:μ s<fuel) (hk:∀t,post t->∃r,k t=some r/\p r):∃r,(cm fuel step s).bind k=some r/\p r:=by
 obtain ⟨t,e1,e2⟩:=oe Inv μ post h fuel s h0 hf;rw [e1];exact hk t e2
theorem IZ {α σ τ:Type}{x:Option α}{k:α->Option (σ ⊕ τ)}{A:σ->Prop}{B:τ->Prop}(post:α->Prop) (hx:∃t,x=some t/\post t)
  (hk:∀t,post t->(∃s',k t=some (.inl s')/\A s')\/∃u,k t=some (.inr u)/\B u):(∃s',x.bind k=some (.inl s')/\A s')\/∃t,x.bind k=some (.inr t)/\B t:=by
 obtain ⟨t,e1,e2⟩:=hx;rw [e1];exact hk t e2
variable {α:Type}{lo hi:α->Int}
def uJ (lo hi:α->Int):List α->Bool
 | []=>true
 | x::l=>decide (lo x<=hi x) && (match l with|[]=>true|y::_=>decide (hi x<lo y)) && uJ lo hi l
theorem zL:∀{T:List α},uJ lo hi T=true->∀i (h:i<T.length),lo T[i]<=hi T[i]
 | [],_,i,h=>by simp at h
 | x::l,hs,i,h=>by
  simp only [uJ,ao,am] at hs
  cases i with
  | zero=>exact hs.1.1
  | succ i=>exact zL hs.2 i (by simpa using h)
theorem tg:∀{T:List α},uJ lo hi T=true->∀i j (h:j<T.length),(hij:i<j)->hi (T[i]'(by omega))<lo T[j]
 | [],_,i,j,h,_=>by simp at h
 | x::l,hs,i,j,h,hij=>by
  have hs0:=hs;simp only [uJ,ao,am] at hs
  cases j with
  | zero=>omega
  | succ j=>
   have hj:j<l.length:=by simpa using h
   cases i with
   | succ i=>exact tg hs.2 i j hj (by omega)
   | zero=>
    cases l with
    | nil=>simp at hj
    | cons y l'=>
     have h1:hi x<lo y:=by simpa using hs.1.2
     cases j with
     | zero=>exact h1
     | succ j=>
      have h2:=tg hs.2 0 (j+1) hj (by omega);have h3:=zL hs.2 0 (by simp);simp only [KD] at h2 h3;simp only [KD,KE] at h2|-;omega
def onn (lo hi:α->Int) (r:Int) (x:α):Bool:=decide (lo x<=r) && decide (r<=hi x)
theorem uV {r:Int}{x:α}:onn lo hi r x=true↔lo x<=r/\r<=hi x:=by simp [onn]
theorem F3 {T:List α}(hs:uJ lo hi T=true){r:Int}{i j:Nat}(hi':i<T.length) (hj:j<T.length) (h1:onn lo hi r T[i]=true) (h2:onn lo hi r T[j]=true):i=j:=by
 rw [uV] at h1 h2;rcases Nat.lt_trichotomy i j with h|h|h
 ·have:=tg hs i j hj h;omega
 ·exact h
 ·have:=tg hs j i hi' h;omega
def fnd (lo hi:α->Int) (T:List α) (r:Int):Option α:=T.find? (onn lo hi r)
theorem Gz {T:List α}(hs:uJ lo hi T=true){r:Int}{x:α}(hx:x∈T) (h:onn lo hi r x=true):fnd lo hi T r=some x:=by
 unfold fnd;obtain ⟨i,hi',rfl⟩:=List.mem_iff_getElem.1 hx;rw [List.find?_eq_some_iff_getElem];refine ⟨h,i,hi',rfl,fun j hj=>?_⟩
 cases hb:onn lo hi r (T[j]'(by omega)) with
 | false=>rfl
 | true=>exact absurd (F3 hs (by omega) hi' hb h) (by omega)
theorem BD {T:List α}{r:Int}(h:∀i (h:i<T.length),onn lo hi r T[i]=false):fnd lo hi T r=none:=by
 unfold fnd;rw [List.find?_eq_none];intro x hx;obtain ⟨i,hi',rfl⟩:=List.mem_iff_getElem.1 hx;simp [h i hi']
theorem Al {T:List α}{r:Int}{x:α}(h:fnd lo hi T r=some x):x∈T/\onn lo hi r x=true:=⟨List.mem_of_find?_eq_some h,List.find?_some h⟩
theorem Am {T:List α}(hs:uJ lo hi T=true){r:Int}{i:Nat}(h1:∀j (h:j<T.length),j<i->hi T[j]<r) (h2:∀j (h:j<T.length),i<=j->r<=hi T[j]):
  fnd lo hi T r=if h:i<T.length then (if lo T[i]<=r then some T[i] else none) else none:=by
 have hno:∀j (h:j<T.length),j≠i->onn lo hi r T[j]=false:=fun j h hne=>by
  cases hb:onn lo hi r T[j] with
  | false=>rfl
  | true=>
   rw [uV] at hb;rcases aE j i with hj|hj
   ·have:=h1 j h hj;omega
   ·have h3:=tg hs i j h (by omega);have h4:=h2 i (by omega) (av _);omega
 split
 ·rename_i hi'
  split
  ·rename_i hl
   exact Gz hs (ay hi') (uV.2 ⟨hl,h2 i hi' (av _)⟩)
  ·rename_i hl
   refine BD fun j h=>?_;by_cases hj:j=i
   ·subst hj
    cases hb:onn lo hi r T[j] with
    | false=>rfl
    | true=>exact absurd (uV.1 hb).1 hl
   ·exact hno j h hj
 ·rename_i hi'
  exact BD fun j h=>hno j h (by omega)
theorem Iy {a b:Nat}(h:a+b<=4611686018427387904):w64 ((IntKind.u64.wrap (w64 ((a:Int)+(b:Int)))).fdiv (2 ^ 1))=(((a+b) / 2:Nat):Int):=by
 have e0:w64 ((a:Int)+(b:Int))=((a+b:Nat):Int):=by rw [aQ (by omega)]; simp
 have h1:IntKind.u64.wrap ((a+b:Nat):Int)=((a+b:Nat):Int):=by
  have:((a+b:Nat):Int) % 18446744073709551616=((a+b:Nat):Int):=Int.emod_eq_of_lt (by omega) (by omega);simpa [IntKind.wrap,IntKind.bits,IntKind.signed] using this
 have e2:(((a+b:Nat):Int)).fdiv (2 ^ 1)=(((a+b) / 2:Nat):Int):=by
  rw [Ho _ (by decide)];omega
 rw [e0,h1,e2,aQ (by omega)]
theorem th {T:List α}(hs:uJ lo hi T=true) (hl:T.length<=1000000) (r:Int){step:Int×Int->Option (Int×Int ⊕ Int)}
  (h1:∀a b:Nat,(hab:a<b)->(hb:b<=T.length)->step ((a:Int),(b:Int))=some (.inl (if r<=hi (T[(a+b) / 2]'(by omega)) then ((a:Int),(((a+b) / 2:Nat):Int)) else (((((a+b) / 2+1:Nat):Int)),(b:Int)))))
  (h2:∀a:Nat,step ((a:Int),(a:Int))=some (.inr (a:Int))):
  ∃i:Nat,cm (((T.length:Int)-0).toNat+1) step (0,(T.length:Int))=some (i:Int)/\i<=T.length/\(∀j (h:j<T.length),j<i->hi T[j]<r)/\(∀j (h:j<T.length),i<=j->r<=hi T[j]):=by
 have hmono:∀j k (h:k<T.length),(hjk:j<=k)->hi (T[j]'(by omega))<=hi T[k]:=fun j k h hjk=>by
  rcases aE j k with hlt|hge
  ·have e1:=tg hs j k h hlt;have e2:=zL hs k h;omega
  ·obtain rfl:j=k:=by omega
   exact DH _
 obtain ⟨t,e1,i,e2,e3,e4,e5⟩:=oe (step:=step) (fun q=>∃a b:Nat,q=((a:Int),(b:Int))/\a<=b/\b<=T.length/\(∀j (h:j<T.length),j<a->hi T[j]<r)/\(∀j (h:j<T.length),b<=j->r<=hi T[j]))
  (fun q=>(q.2-q.1).toNat) (fun t=>∃i:Nat,t=(i:Int)/\i<=T.length/\(∀j (h:j<T.length),j<i->hi T[j]<r)/\(∀j (h:j<T.length),i<=j->r<=hi T[j]))
  (by
   rintro q ⟨a,b,rfl,hab,hb,c1,c2⟩;rcases aE a b with hlt|hge
   ·left
    rw [h1 a b hlt hb];refine ⟨_,rfl,?_⟩;by_cases hr:r<=hi (T[(a+b) / 2]'(by omega))
    ·rw [ae hr];exact ⟨⟨a,(a+b) / 2,rfl,by omega,by omega,c1,fun j h hj=>Int.le_trans hr (hmono _ _ h hj)⟩,by simp only; omega⟩
    ·rw [ab hr];refine ⟨⟨(a+b) / 2+1,b,rfl,by omega,hb,fun j h hj=>?_,c2⟩,by simp only; omega⟩;have:=hmono j ((a+b) / 2) (by omega) (by omega);omega
   ·right
    obtain rfl:a=b:=by omega
    exact ⟨_,h2 a,a,rfl,hb,c1,c2⟩)
  (((T.length:Int)-0).toNat+1) (0,(T.length:Int)) ⟨0,T.length,rfl,dk _,av _,fun j h hj=>by omega,fun j h hj=>by omega⟩ (by simp only; omega)
 subst e2;exact ⟨i,e1,e3,e4,e5⟩
def Lb (v:Option Int):Int ⊕ Unit:=match v with|some x=> .inl x|none=> .inr ()
theorem Ge {n:Nat}(hn:n<=1000000){v:Option Int}{step:Int->Option (Int ⊕ (Int ⊕ Unit))}
  (h1:∀k:Nat,k<n->step (k:Int)=if v=some ((k:Int)+1) then some (.inr (.inl ((k:Int)+1))) else some (.inl ((k+1:Nat):Int)))
  (h2:step (n:Int)=some (.inr (.inr ()))) (hv:∀x,v=some x->1<=x/\x<=n):cm (((n:Int)-0).toNat+1) step 0=some (Lb v):=by
 refine qF (fun s=>∃k:Nat,s=(k:Int)/\k<=n/\∀j:Nat,j<k->v≠some ((j:Int)+1)) (fun s=>((n:Int)-s).toNat) ?_ ⟨0,rfl,dk _,fun j hj=>by omega⟩ (by omega);rintro s ⟨k,rfl,hk,hno⟩;rcases aE k n with hlt|hge
 ·rw [h1 k hlt];by_cases he:v=some ((k:Int)+1)
  ·rw [ae he]
   right
   subst he;rfl
  ·rw [ab he];refine .inl ⟨_,rfl,⟨k+1,rfl,by omega,fun j hj=>?_⟩,by omega⟩;by_cases hjk:j=k
   ·subst hjk; exact he
   ·exact hno j (by omega)
 ·obtain rfl:k=n:=by omega
  rw [h2]
  right
  cases v with
  | none=>rfl
  | some x=>
   obtain ⟨e1,e2⟩:=hv x rfl;exact absurd (show some x=some (((x-1).toNat:Int)+1) by congr 1; omega) (hno (x-1).toNat (by omega))
theorem vW {n fuel:Nat}{β:Type}{kk:Int ⊕ Unit->Option β}{rr:Option β}(hn:n<=1000000){v:Option Int}{step:Int->Option (Int ⊕ (Int ⊕ Unit))}
  (h1:∀k:Nat,k<n->step (k:Int)=if v=some ((k:Int)+1) then some (.inr (.inl ((k:Int)+1))) else some (.inl ((k+1:Nat):Int)))
  (h2:step (n:Int)=some (.inr (.inr ()))) (hv:∀x,v=some x->1<=x/\x<=n) (hf:fuel=((n:Int)-0).toNat+1) (hk:kk (Lb v)=rr):(cm fuel step 0).bind kk=rr:=by
 subst hf;rw [Ge hn h1 h2 hv];exact hk
def lk (T:List (Int×Int×Int)) (r:Int):Option Int:=(fnd (fun x=>x.1) (fun x=>x.2.1) T r).map (fun x=>x.2.2)
def yJ (l:List (Int×Int)) (r:Int):Bool:=l.any (onn (fun x=>x.1) (fun x=>x.2) r)
def ofv (T:List (Int×Int×Int)) (v:Int):List (Int×Int):=(T.filter (fun x=>x.2.2==v)).map (fun x=>(x.1,x.2.1))
theorem Aj {T:List (Int×Int×Int)}(hs:uJ (fun x=>x.1) (fun x=>x.2.1) T=true) (v r:Int):yJ (ofv T v) r=decide (lk T r=some v):=by
 unfold yJ ofv lk;rw [List.any_map,List.any_filter]
 cases hf:fnd (fun x=>x.1) (fun x=>x.2.1) T r with
 | none=>
  simp only [MI,reduceCtorEq,decide_false];rw [Mx];intro x hx;unfold fnd at hf;have:=List.find?_eq_none.1 hf x hx;simp only [Function.comp,ao,Bj];intro _;simpa [onn] using this
 | some x=>
  obtain ⟨h1,h2⟩:=Al hf;simp only [fC,aK];by_cases hv:x.2.2=v
  ·rw [yc hv,C2];exact ⟨x,h1,by simp only [Function.comp,ao,aS]; exact ⟨hv,h2⟩⟩
  ·rw [decide_eq_false hv,Mx];intro y hy;simp only [Function.comp,ao,aS,Bj];intro e
   cases hb:onn (fun x:Int×Int=>x.1) (fun x=>x.2) r (y.1,y.2.1) with
   | false=>simp
   | true=>
    have:=Gz hs hy (show onn (fun x:Int×Int×Int=>x.1) (fun x=>x.2.1) r y=true from hb);rw [hf] at this;cases this;exact absurd e hv
theorem Gd {T:List (Int×Int×Int)}{p:Int->Bool}(h:T.all (fun x=>p x.2.2)=true){r v:Int}(hv:lk T r=some v):p v=true:=by
 unfold lk at hv;obtain ⟨x,hx,rfl⟩:=Option.map_eq_some_iff.1 hv;exact List.all_eq_true.1 h x (Al hx).1
end Go.Lt
namespace Go.Proofs.YtkgjnbiiiifoaaaGreatDoor
open Go Go.Lt
set_option maxRecDepth 100000
def gT:List (Int×Int×Int):=match ol with|some t=>t|none=>[]
def pT:List (Int×Int):=match mS with|some t=>t|none=>[]
def cT:List (Int×Int×Int):=match mY with|some t=>t|none=>[]
def eT:List (Int×Int×Int):=match mX with|some t=>t|none=>[]
theorem Lk:ol=some gT:=rfl
theorem K9:mS=some pT:=rfl
theorem LA:mY=some cT:=rfl
theorem Ls:mX=some eT:=rfl
theorem Kd:uJ (fun x=>x.1) (fun x=>x.2.1) gT=true:=by kernel_rfl
theorem K7:uJ (fun x=>x.1) (fun x=>x.2) pT=true:=by kernel_rfl
theorem Kt:uJ (fun x=>x.1) (fun x=>x.2.1) cT=true:=by kernel_rfl
theorem Kj:uJ (fun x=>x.1) (fun x=>x.2.1) eT=true:=by kernel_rfl
theorem Ke:gT.length<=1000000:=by
 have:Nat.ble gT.length 1000000=true:=by kernel_rfl
 exact bF this
theorem JQ:pT.length<=1000000:=by
 have:Nat.ble pT.length 1000000=true:=by kernel_rfl
 exact bF this
theorem Ku:cT.length<=1000000:=by
 have:Nat.ble cT.length 1000000=true:=by kernel_rfl
 exact bF this
theorem Kk:eT.length<=1000000:=by
 have:Nat.ble eT.length 1000000=true:=by kernel_rfl
 exact bF this
theorem L9:gT.all (fun x=>decide (1<=x.2.2) && decide (x.2.2<=8))=true:=by kernel_rfl
theorem Me:cT.all (fun x=>decide (1<=x.2.2) && decide (x.2.2<=3))=true:=by kernel_rfl
theorem Mc:eT.all (fun x=>decide (1<=x.2.2) && decide (x.2.2<=3))=true:=by kernel_rfl
def hcl (r:Int):Int:=
 if (4352<=r/\r<=4447)\/(43360<=r/\r<=43388) then 9
 else if (4448<=r/\r<=4519)\/(55216<=r/\r<=55238) then 10
 else if (4520<=r/\r<=4607)\/(55243<=r/\r<=55291) then 11
 else if r<44032\/55203<r then 0
 else if (r-44032) % 28=0 then 12 else 13
def r32 (r:Int):Prop:= -2147483648<=r/\r<=2147483647
theorem r32.w {r:Int}(h:r32 r):w64 r=r:=by unfold r32 at h; exact aQ (by omega)
theorem qU {α:Type}{b:Bool}{p:Prop}[Decidable p] (h:b=true↔p) (x y:α):(if b then x else y)=if p then x else y:=by
 by_cases hp:p
 ·rw [ae hp,ae (h.2 hp)]
 ·rw [ab hp,ab (fun e=>hp (h.1 e))]
theorem uK {α:Type}{p:Prop}[Decidable p] (x y:α):(if p then some x else some y)=some (if p then x else y):=by split <;> rfl
theorem vg (r:Int) (h:r32 r):kZ r=some (hcl r):=by
 unfold r32 at h;unfold kZ kO gQ hcl;simp only [aX,bsm,bu];have hw:44032<=r->r<=55203->(w32 (r-44032)).tmod 28=(r-44032) % 28:=fun h1 h2=>by
  rw [zG (by omega),Hn (by omega)]
 rw [qU (p:=(4352<=r/\r<=4447)\/(43360<=r/\r<=43388)) (by simp),qU (p:=(4448<=r/\r<=4519)\/(55216<=r/\r<=55238)) (by simp),qU (p:=(4520<=r/\r<=4607)\/(55243<=r/\r<=55291)) (by simp)];rw [qU (p:=r<44032\/55203<r) (by simp)];by_cases hs:r<44032\/55203<r
 ·simp only [ae hs,uK]
 ·simp only [ab hs];rw [hw (by omega) (by omega)];rw [qU (p:=(r-44032) % 28=0) (by simp)];simp only [uK]
theorem D8 (r:Int) (h1:44032<=r) (h2:r<=55203):∃x,dM r=some x/\(x.1≠0/\(x.2.2=0↔(r-44032) % 28=0)):=by
 have hw:w64 r=r:=aQ (by omega);unfold dM;simp only [hw,bu,bsm];rw [ab (by simp; omega)];refine EA (fun q=>∃i:Nat,i<=19/\q=((44032+588*(i:Int),4352+(i:Int)):Int×Int)/\44032+588*(i:Int)<=r) (fun q=>(4371-q.2).toNat)
  (fun t=>∃x:Int×Int×Int,t= .inl x/\(x.1≠0/\(x.2.2=0↔(r-44032) % 28=0))) ?_ ⟨0,by omega,by simp,by omega⟩ (by simp only; omega) ?_
 ·rintro q ⟨i,hi,rfl,hir⟩;by_cases hi2:i=19
  ·subst hi2;omega
  dsimp only
  rw [ae (by simp; omega)];refine IZ (fun t=>(∃x:Int×Int×Int,t= .inl x/\(x.1≠0/\(x.2.2=0↔(r-44032) % 28=0)))\/(t= .inr (44032+588*((i+1:Nat):Int))/\44032+588*((i+1:Nat):Int)<=r))
   (oe (fun q=>∃j:Nat,j<=21/\q=((44032+588*(i:Int)+28*(j:Int),4449+(j:Int)):Int×Int)/\44032+588*(i:Int)+28*(j:Int)<=r) (fun q=>(4470-q.2).toNat) _ ?_ _ _ ⟨0,by omega,by simp,by omega⟩ (by simp only; omega)) ?_
  ·rintro q ⟨j,hj,rfl,hjr⟩
   dsimp only
   by_cases hj2:j=21
   ·subst hj2
    right
    refine ⟨.inr (44032+588*((i+1:Nat):Int)),?_,.inr ⟨rfl,by omega⟩⟩;rw [ab (by simp),show (44032+588*(i:Int)+28*((21:Nat):Int))=44032+588*((i+1:Nat):Int) by omega]
   ·rw [ae (by simp; omega),aQ (by omega)];by_cases hlt:r<44032+588*(i:Int)+28*(j:Int)+28
    ·right
     rw [ae (by simpa using hlt)];rw [show w64 (4519+r)=4519+r from aQ (by omega),aQ (by omega)];by_cases hz:4519+r-(44032+588*(i:Int)+28*(j:Int))=4519
     ·rw [ae (by simpa using hz)];exact ⟨_,rfl,.inl ⟨_,rfl,by show 4352+(i:Int)≠0; omega,by show (0:Int)=0↔_; simp; omega⟩⟩
     ·rw [ab (by simpa using hz)];exact ⟨_,rfl,.inl ⟨_,rfl,by show 4352+(i:Int)≠0; omega,by show 4519+r-(44032+588*(i:Int)+28*(j:Int))=0↔_; omega⟩⟩
    ·left
     rw [ab (by simpa using hlt),aQ (by omega)];exact ⟨_,rfl,⟨j+1,by omega,by simp only [ib]; omega,by omega⟩,by omega⟩
  ·rintro t (⟨x,rfl,hx⟩|⟨rfl,hx⟩)
   ·exact .inr ⟨_,rfl,x,rfl,hx⟩
   ·refine .inl ⟨_,rfl,⟨i+1,by omega,?_,by omega⟩,?_⟩
    ·rw [aQ (by omega)];exact Prod.ext rfl (by show 4352+(i:Int)+1=4352+((i+1:Nat):Int); omega)
    ·rw [aQ (by omega)];omega
 ·rintro t ⟨x,rfl,hx⟩;exact ⟨x,rfl,hx⟩
theorem Ed (r:Int) (h:r32 r):eF r=some (hcl r):=by
 have hw:=h.w;unfold r32 at h;unfold eF hcl;simp only [hw,aX,bsm,bu];rw [qU (p:=(4352<=r/\r<=4447)\/(43360<=r/\r<=43388)) (by simp),qU (p:=(4448<=r/\r<=4519)\/(55216<=r/\r<=55238)) (by simp),qU (p:=(4520<=r/\r<=4607)\/(55243<=r/\r<=55291)) (by simp)];by_cases hs:r<44032\/55203<r
 ·have:dM r=some (0,0,0):=by
   unfold dM;simp only [hw,bu,bsm];rw [ae (by simpa using hs)]
  rw [this];simp only [bsm,ae hs,uK];rfl
 ·obtain ⟨⟨l,v,t⟩,e1,e2,e3⟩:=D8 r (by omega) (by omega);have e2':(l==0)=false:=by simpa using e2
  rw [e1];simp only [bsm,e2',aj,aU,ab hs];rw [qU (b:=t==0) (p:=(r-44032) % 28=0) (by simpa using e3)];simp only [uK]
theorem zW (l:List (Int×Int)) (hl:l.length<=1000000) (r:Int) (h:r32 r):dX l r=some (yJ l r):=by
 have hw:=h.w;unfold dX;simp only [hw];have key:cm (σ:=Int) (τ:=Bool ⊕ Unit) (((l.length:Int)-0).toNat+1) (fun s_5=>
   if decide (s_5<(l.length:Int)) then
   (idx l s_5).bind fun x_15=>
   (bw (decide (r>=x_15.1)) ((idx l s_5).bind fun x_25=>
   some (decide (r<=x_25.2)))).bind fun d_19=>
   if d_19 then
   some (.inr (.inl true))
   else
   some (.inl ((w64 (s_5+1))))
   else
   some (.inr (.inr ()))) 0=some (if yJ l r=true then .inl true else .inr ()):=by
  refine qF (fun s=>∃k:Nat,s=(k:Int)/\k<=l.length/\(l.take k).any (onn (fun x=>x.1) (fun x=>x.2) r)=false) (fun s=>((l.length:Int)-s).toNat) ?_ ⟨0,rfl,dk _,by simp⟩ (by omega);rintro s ⟨k,rfl,hk,hno⟩;rcases aE k l.length with hlt|hge
  ·have e1:(l.take (k+1)).any (onn (fun x=>x.1) (fun x=>x.2) r)=((l.take k).any (onn (fun x=>x.1) (fun x=>x.2) r) || onn (fun x=>x.1) (fun x=>x.2) r l[k]):=by
    rw [ak hlt,Fc];simp
   simp only [dlt hlt,bA,bd hlt,bsm,aX];have e2:(decide (r>=l[k].1) && decide (r<=l[k].2))=onn (fun x:Int×Int=>x.1) (fun x=>x.2) r l[k]:=rfl;rw [e2]
   cases hb:onn (fun x:Int×Int=>x.1) (fun x=>x.2) r l[k] with
   | true=>
    right
    have:yJ l r=true:=by
     unfold yJ;rw [C2];exact ⟨_,ay hlt,hb⟩
    rw [ae this];rfl
   | false=>
    left
    rw [cM hlt (by omega)];exact ⟨_,rfl,⟨k+1,rfl,hlt,by rw [e1,hno,hb]; rfl⟩,by omega⟩
  ·obtain rfl:k=l.length:=by omega
   right
   rw [cC] at hno;simp only [dnl,aj,aU];rw [show yJ l r=false from hno];rfl
 rw [key]
 cases yJ l r <;> rfl
theorem Lj:(match iR,iQ,iP,iO,iN,iM,iL,iK with
 | some a,some b,some c,some d,some e,some f,some g,some h=>[a,b,c,d,e,f,g,h]== [ofv gT 1,ofv gT 2,ofv gT 3,ofv gT 4,ofv gT 5,ofv gT 6,ofv gT 7,ofv gT 8]|_,_,_,_,_,_,_,_=>false)=true:=by kernel_rfl
theorem Lz:(match iJ,iI,iH with
 | some a,some b,some c=>[a,b,c]== [ofv cT 1,ofv cT 2,ofv cT 3]|_,_,_=>false)=true:=by kernel_rfl
theorem Lr:(match iG,iF,iE with
 | some a,some b,some c=>[a,b,c]== [ofv eT 1,ofv eT 2,ofv eT 3]|_,_,_=>false)=true:=by kernel_rfl
theorem K8:(jj==some pT)=true:=by kernel_rfl
theorem Aa (T:List (Int×Int×Int)) (v:Int):(ofv T v).length<=T.length:=by
 unfold ofv;rw [dF];exact pH _ _
theorem K4 (r:Int) (h:r32 r):iq r=some ((lk gT r).getD (hcl r)):=by
 have hl:=Lj;unfold iq;split at hl
 ·rename_i a b c d e f g hh ea eb ec ed ee ef eg eh
  rw [ea,eb,ec,ed,ee,ef,eg,eh];simp only [bsm];have hl2:=eq_of_beq hl;rw [hl2];refine vW (n:=8) (by decide) (v:=lk gT r) (fun k hk=>?_) (by rfl) (fun x hx=>?_) rfl ?_
  ·have hi:idx ([ofv gT 1,ofv gT 2,ofv gT 3,ofv gT 4,ofv gT 5,ofv gT 6,ofv gT 7,ofv gT 8]:List (List (Int×Int))) (k:Int)=some (ofv gT ((k:Int)+1)):=by
    rw [xj]
    match k,hk with
    | 0,_=>rfl
    | 1,_=>rfl
    | 2,_=>rfl
    | 3,_=>rfl
    | 4,_=>rfl
    | 5,_=>rfl
    | 6,_=>rfl
    | 7,_=>rfl
   simp only [hi,bsm];rw [ae (by simp; omega),zW _ (cO (Aa _ _) Ke) r h,Aj Kd,aQ (by omega)];simp only [bsm];rw [qU (p:=lk gT r=some ((k:Int)+1)) (by simp)];rfl
  ·have:=Gd (p:=fun v=>decide (1<=v) && decide (v<=8)) L9 hx;simpa using this
  ·cases lk gT r with
   | none=>show ((eF r).bind fun o=>some o)=_; rw [Ed r h]; rfl
   | some x=>rfl
 ·cases hl
theorem K2 (r:Int) (h:r32 r):io r=some ((lk cT r).getD 0):=by
 have hl:=Lz;unfold io;split at hl
 ·rename_i a b c ea eb ec
  rw [ea,eb,ec];simp only [bsm];have hl2:=eq_of_beq hl;rw [hl2];refine vW (n:=3) (by decide) (v:=lk cT r) (fun k hk=>?_) (by rfl) (fun x hx=>?_) rfl ?_
  ·have hi:idx ([ofv cT 1,ofv cT 2,ofv cT 3]:List (List (Int×Int))) (k:Int)=some (ofv cT ((k:Int)+1)):=by
    rw [xj]
    match k,hk with
    | 0,_=>rfl
    | 1,_=>rfl
    | 2,_=>rfl
   simp only [hi,bsm];rw [ae (by simp; omega),zW _ (cO (Aa _ _) Ku) r h,Aj Kt,aQ (by omega)];simp only [bsm];rw [qU (p:=lk cT r=some ((k:Int)+1)) (by simp)];rfl
  ·have:=Gd (p:=fun v=>decide (1<=v) && decide (v<=3)) Me hx;simpa using this
  ·cases lk cT r <;> rfl
 ·cases hl
theorem K1 (r:Int) (h:r32 r):il r=some ((lk eT r).getD 0):=by
 have hl:=Lr;unfold il;split at hl
 ·rename_i a b c ea eb ec
  rw [ea,eb,ec];simp only [bsm];have hl2:=eq_of_beq hl;rw [hl2];refine vW (n:=3) (by decide) (v:=lk eT r) (fun k hk=>?_) (by rfl) (fun x hx=>?_) rfl ?_
  ·have hi:idx ([ofv eT 1,ofv eT 2,ofv eT 3]:List (List (Int×Int))) (k:Int)=some (ofv eT ((k:Int)+1)):=by
    rw [xj]
    match k,hk with
    | 0,_=>rfl
    | 1,_=>rfl
    | 2,_=>rfl
   simp only [hi,bsm];rw [ae (by simp; omega),zW _ (cO (Aa _ _) Kk) r h,Aj Kj,aQ (by omega)];simp only [bsm];rw [qU (p:=lk eT r=some ((k:Int)+1)) (by simp)];rfl
  ·have:=Gd (p:=fun v=>decide (1<=v) && decide (v<=3)) Mc hx;simpa using this
  ·cases lk eT r <;> rfl
 ·cases hl
def pic (r:Int):Bool:=(fnd (fun x:Int×Int=>x.1) (fun x=>x.2) pT r).isSome
theorem Ix (r:Int):yJ pT r=pic r:=by
 unfold yJ pic fnd;rw [ci,List.find?_isSome,C2]
theorem K3 (r:Int) (h:r32 r):ip r=some (pic r):=by
 unfold ip;rw [eq_of_beq K8];simp only [bsm];rw [zW _ JQ r h,Ix];rfl
def pr (r:Int):an:=⟨(lk gT r).getD (hcl r),pic r,(lk cT r).getD 0,(lk eT r).getD 0⟩
theorem K0 (r:Int) (h:r32 r):dW r=some (pr r):=by
 unfold dW;rw [K4 r h,K3 r h,K2 r h,K1 r h];rfl
theorem sk {a b n:Nat}(h:a<b) (hb:b<=n):(a+b) / 2<n:=by omega
theorem Kb (r:Int) (h:r32 r):sE r=some ((lk gT r).getD (hcl r)):=by
 have hw:=h.w;have hlen:=Ke;unfold sE;rw [Lk];simp only [bsm];obtain ⟨i,e1,e2,e3,e4⟩:=th Kd Ke r (step:=fun s_7=>
  if decide (s_7.1<s_7.2) then
  (oW (w64 ((IntKind.u64.wrap (w64 (s_7.1+s_7.2))).fdiv (2 ^ 1))) gT r).bind fun x_22=>
  if (!x_22)=true then
  some (.inl ((w64 ((w64 ((IntKind.u64.wrap (w64 (s_7.1+s_7.2))).fdiv (2 ^ 1)))+1)),s_7.2))
  else
  some (.inl (s_7.1,(w64 ((IntKind.u64.wrap (w64 (s_7.1+s_7.2))).fdiv (2 ^ 1)))))
  else
  some (.inr s_7.1)) (fun a b hab hb=>by
   simp only;rw [ae (by simp; omega),Iy (by omega)];unfold oW;rw [bd (sk hab hb),hw];simp only [bsm];by_cases hr:r<=(gT[(a+b) / 2]'(sk hab hb)).2.1
   ·rw [ab (by simpa using hr),ae hr]
   ·rw [ae (by simpa using hr),ab hr,aQ (by omega)];rfl) (fun a=>by simp only; rw [ab (by simp)])
 unfold gy;rw [e1];simp only [bsm,hw];have hf:=Am Kd e3 e4;unfold lk;rw [hf];by_cases hi:i<gT.length
 ·rw [we hi,bd hi];simp only [bsm,aX];by_cases hlo:gT[i].1<=r
  ·rw [ae (by simp; exact ⟨hi,hlo⟩),ae hlo];rfl
  ·rw [ab (by simp; omega),ab hlo,vg r h];rfl
 ·rw [yB hi,show decide ((i:Int)<(gT.length:Int))=false by simp; omega,kh];simp only [bsm];rw [ab (by decide),vg r h];rfl
theorem IU (r:Int) (h:r32 r):ql r=some ((lk cT r).getD 0):=by
 have hw:=h.w;have hlen:=Ku;unfold ql;rw [LA];simp only [bsm];obtain ⟨i,e1,e2,e3,e4⟩:=th Kt Ku r (step:=fun s_7=>
  if decide (s_7.1<s_7.2) then
  (oq (w64 ((IntKind.u64.wrap (w64 (s_7.1+s_7.2))).fdiv (2 ^ 1))) cT r).bind fun x_22=>
  if (!x_22)=true then
  some (.inl ((w64 ((w64 ((IntKind.u64.wrap (w64 (s_7.1+s_7.2))).fdiv (2 ^ 1)))+1)),s_7.2))
  else
  some (.inl (s_7.1,(w64 ((IntKind.u64.wrap (w64 (s_7.1+s_7.2))).fdiv (2 ^ 1)))))
  else
  some (.inr s_7.1)) (fun a b hab hb=>by
   simp only;rw [ae (by simp; omega),Iy (by omega)];unfold oq;rw [bd (sk hab hb),hw];simp only [bsm];by_cases hr:r<=(cT[(a+b) / 2]'(sk hab hb)).2.1
   ·rw [ab (by simpa using hr),ae hr]
   ·rw [ae (by simpa using hr),ab hr,aQ (by omega)];rfl) (fun a=>by simp only; rw [ab (by simp)])
 unfold fX;rw [e1];simp only [bsm,hw];have hf:=Am Kt e3 e4;unfold lk;rw [hf];by_cases hi:i<cT.length
 ·rw [we hi,bd hi];simp only [bsm,bu];by_cases hlo:cT[i].1<=r
  ·rw [ab (by simp; omega),ae hlo];rfl
  ·rw [ae (by simp; omega),ab hlo];rfl
 ·rw [yB hi,show ((i:Int)==(cT.length:Int))=true by simp; omega,xG];simp only [bsm];rw [ae trivial];rfl
theorem IE (r:Int) (h:r32 r):qj r=some ((lk eT r).getD 0):=by
 have hw:=h.w;have hlen:=Kk;unfold qj;rw [Ls];simp only [bsm];obtain ⟨i,e1,e2,e3,e4⟩:=th Kj Kk r (step:=fun s_7=>
  if decide (s_7.1<s_7.2) then
  (oo (w64 ((IntKind.u64.wrap (w64 (s_7.1+s_7.2))).fdiv (2 ^ 1))) eT r).bind fun x_22=>
  if (!x_22)=true then
  some (.inl ((w64 ((w64 ((IntKind.u64.wrap (w64 (s_7.1+s_7.2))).fdiv (2 ^ 1)))+1)),s_7.2))
  else
  some (.inl (s_7.1,(w64 ((IntKind.u64.wrap (w64 (s_7.1+s_7.2))).fdiv (2 ^ 1)))))
  else
  some (.inr s_7.1)) (fun a b hab hb=>by
   simp only;rw [ae (by simp; omega),Iy (by omega)];unfold oo;rw [bd (sk hab hb),hw];simp only [bsm];by_cases hr:r<=(eT[(a+b) / 2]'(sk hab hb)).2.1
   ·rw [ab (by simpa using hr),ae hr]
   ·rw [ae (by simpa using hr),ab hr,aQ (by omega)];rfl) (fun a=>by simp only; rw [ab (by simp)])
 unfold fW;rw [e1];simp only [bsm,hw];have hf:=Am Kj e3 e4;unfold lk;rw [hf];by_cases hi:i<eT.length
 ·rw [we hi,bd hi];simp only [bsm,bu];by_cases hlo:eT[i].1<=r
  ·rw [ab (by simp; omega),ae hlo];rfl
  ·rw [ae (by simp; omega),ab hlo];rfl
 ·rw [yB hi,show ((i:Int)==(eT.length:Int))=true by simp; omega,xG];simp only [bsm];rw [ae trivial];rfl
theorem HV (r:Int) (h:r32 r):qf r=some (pic r):=by
 have hlen:=JQ;unfold qf;rw [K9];simp only [bsm];obtain ⟨i,e1,e2,e3,e4⟩:=th K7 JQ r (step:=fun s_7=>
  if decide (s_7.1<s_7.2) then
  (oh (w64 ((IntKind.u64.wrap (w64 (s_7.1+s_7.2))).fdiv (2 ^ 1))) pT r).bind fun x_22=>
  if (!x_22)=true then
  some (.inl ((w64 ((w64 ((IntKind.u64.wrap (w64 (s_7.1+s_7.2))).fdiv (2 ^ 1)))+1)),s_7.2))
  else
  some (.inl (s_7.1,(w64 ((IntKind.u64.wrap (w64 (s_7.1+s_7.2))).fdiv (2 ^ 1)))))
  else
  some (.inr s_7.1)) (fun a b hab hb=>by
   simp only;rw [ae (by simp; omega),Iy (by omega)];unfold oh;rw [bd (sk hab hb)];simp only [bsm];by_cases hr:r<=(pT[(a+b) / 2]'(sk hab hb)).2
   ·rw [ab (by simpa using hr),ae hr]
   ·rw [ae (by simpa using hr),ab hr,aQ (by omega)];rfl) (fun a=>by simp only; rw [ab (by simp)])
 unfold fV;rw [e1];simp only [bsm];have hf:=Am K7 e3 e4;unfold pic;rw [hf];by_cases hi:i<pT.length
 ·rw [we hi,bd hi];simp only [bsm,aX];by_cases hlo:pT[i].1<=r
  ·rw [ae hlo];simp [hi,hlo]
  ·rw [ab hlo];simp [hlo]
 ·rw [yB hi,show decide ((i:Int)<(pT.length:Int))=false by simp; omega,kh];rfl
theorem Cj (r:Int) (h:r32 r):oQ r=some (pr r):=by
 unfold oQ;rw [Kb r h,HV r h,IU r h,IE r h];rfl
end Go.Proofs.YtkgjnbiiiifoaaaGreatDoor
namespace Go.Proofs.YtkgjnbiiiifoaaaGreatDoor
open Go Go.Lt
def Sto.sr (s:Sto) (k:Nat) (x:bm):Sto:={ s with row_Row:=s.row_Row.set k x}
theorem cR {α:Type}{l:List α}{k:Nat}{x:α}(h:l[k]? = some x):k<l.length:=(List.getElem?_eq_some_iff.1 h).1
theorem xf {s:Sto}{k:Nat}{x:bm}(h:k<s.row_Row.length):s.set_row_Row k x=some (s.sr k x):=by
 unfold Sto.set_row_Row;rw [ae h];rfl
theorem JA (s:Sto) (k:Nat) (x:bm):(s.sr k x).row_Row.length=s.row_Row.length:=by simp [Sto.sr]
theorem uh {s:Sto}{k:Nat}{x:bm}(h:k<s.row_Row.length):(s.sr k x).row_Row[k]? = some x:=by simp [Sto.sr,h]
theorem AY {s:Sto}{k j:Nat}{x:bm}(h:k≠j):(s.sr k x).row_Row[j]? = s.row_Row[j]? :=by simp [Sto.sr,h]
theorem C8 (s:Sto) (k:Nat) (x y:bm):(s.sr k x).sr k y=s.sr k y:=by simp [Sto.sr]
theorem AZ {s:Sto}{k:Nat}{x:bm}(h:s.row_Row[k]? = some x):s.sr k x=s:=by
 have:s.row_Row.set k x=s.row_Row:=by
  apply bi;intro j;by_cases hj:k=j
  ·subst hj; rw [bp (cR h),h]
  ·rw [aW hj]
 simp [Sto.sr,this]
theorem DE (s:Sto) (x:bm):(s.add_row_Row x).row_Row[s.row_Row.length]? = some x:=by simp [Sto.add_row_Row]
theorem Kz (s:Sto) (x y:bm):(s.add_row_Row x).sr s.row_Row.length y=s.add_row_Row y:=by simp [Sto.sr,Sto.add_row_Row]
variable {s:Sto}{k:Nat}{l:List aa}{w:Bool}
theorem jF (h:s.row_Row[k]? = some ⟨l,w⟩):bN s (some k)=some (l.length:Int):=by simp [bN,h]
theorem xg {c:aa}(h:c.Text.length<=1000000):mB c=some c:=by
 simp only [mB,ge,fg (show ([]:List Int).length+c.Text.length<=1099511627776 by simp; omega),bsm,bW]
theorem FL (h:s.row_Row[k]? = some ⟨l,w⟩):jN s (some k)=some w:=by simp [jN,h,bw]
theorem xz (h:s.row_Row[k]? = some ⟨l,w⟩) (on:Bool):ft s (some k) on=some (s.sr k ⟨l,on⟩):=by
 simp [ft,h,xf (cR h)]
theorem tl (h:s.row_Row[k]? = some ⟨l,w⟩) (hl:l.length<=1000000) (hs:Sht l):eM s (some k)=some l:=by
 unfold eM;rw [jF h];simp only [bsm];rw [qF (s:=(([]:List aa),(0:Int))) (t:=l) (fun st:List aa×Int=>∃i:Nat,st=(l.take i,(i:Int))/\i<=l.length) (fun st=>l.length-st.2.toNat) ?_ ⟨0,rfl,dk _⟩ (by simp)]
 ·rfl
 ·rintro st ⟨i,rfl,hi⟩;rcases aE i l.length with hlt|hge
  ·refine .inl ⟨(l.take (i+1),((i+1:Nat):Int)),?_,⟨i+1,rfl,hlt⟩,by simp; omega⟩;have e3:w64 ((i:Int)+1)=((i+1:Nat):Int):=by rw [aQ (by omega)]; simp
   simp only [pi,hlt,lI,bA,bsm,h,bd hlt,xg (hs i hlt),e3];rw [fg (by rw [aA]; simp; omega),ak hlt];rfl
  ·obtain rfl:i=l.length:=by omega
   exact .inr (by simp)
theorem Ba (h:s.row_Row[k]? = some ⟨l,w⟩){i:Nat}(hi:i<l.length) (hs:Sht l):gg s (some k) i=some (l[i],true):=by
 unfold gg;rw [jF h];simp only [bsm,bu];rw [ab (by simp; omega)];simp only [h,bsm,bd hi,xg (hs i hi)]
theorem A9 (h:s.row_Row[k]? = some ⟨l,w⟩) (i:Nat):ii s (some k) i=some (kd l i):=by
 unfold ii;rw [jF h];simp only [bsm,bu];by_cases hi:i<l.length
 ·rw [ab (by simp; omega)];simp only [h,bsm,bd hi,jy hi]
 ·rw [ae (by simp; omega),lJ (by omega)]
theorem zT (h:s.row_Row[k]? = some ⟨l,w⟩){i:Nat}(hi:i<l.length) (hl:l.length<=1000000){c:aa}(hc:c.Text.length<=1000000):
  fY s (some k) i c=some (s.sr k ⟨l.set i c,w && !decide (i+1=l.length)⟩):=by
 unfold fY;have e:w64 (((l.set i c).length:Int)-1)=(l.length:Int)-1:=by rw [cq,aQ (by omega)]
 simp only [h,bsm,xg hc,bd hi,kR hi,xf (cR h),e];by_cases hn:i+1=l.length
 ·rw [ae (by simp; omega),xf (by rw [JA]; exact cR h),C8];simp [hn]
 ·rw [ab (by simp; omega)];simp [hn]
def sd (n:Int):Nat:=(max 1 (min n 1024)).toNat
theorem xu (n:Int):1<=sd n/\sd n<=1024:=by unfold sd; omega
theorem zj {n:Nat}(h:1<=n) (h2:n<=1024):sd n=n:=by unfold sd; omega
theorem wv (n:Int):eI n=some (List.replicate (max 0 (min n 1024)).toNat bl):=by
 unfold eI;simp only [iC,ey];rw [qD _ (by omega)];rfl
theorem zU (n:Int):lC s n=some (s.add_row_Row ⟨List.replicate (sd n) bl,false⟩,some s.row_Row.length):=by
 unfold lC;rw [wv];simp only [bsm,iC];rw [show (max 0 (min (max 1 n) 1024)).toNat=sd n by unfold sd; omega]
theorem vO (n:Nat):Snd (List.replicate n bl):=fun i h=>by
 rw [jx];exact ⟨rfl,fun h=>by simp [bl] at h,fun h=>by simp [bl] at h⟩
theorem JI (hl:1<=l.length) (hl2:l.length<=1024) (hs:Snd l):sy s l=some (s.add_row_Row ⟨l,false⟩,some s.row_Row.length,Er.nil):=by
 unfold sy;obtain ⟨b,h1,h2⟩:=yd l (by omega);have hb:b=true:=h2.2 hs;subst hb;simp only [bu,bsm,h1];rw [ab (by rw [aB,aS,am]; omega),ab (by simp),zU,zj hl hl2];simp only [bsm];rw [qF (s:=((0:Int),s.add_row_Row ⟨List.replicate l.length bl,false⟩)) (t:=s.add_row_Row ⟨l,false⟩) (fun st:Int×Sto=>∃i:Nat,st=((i:Int),s.add_row_Row ⟨l.take i++List.replicate (l.length-i) bl,false⟩)/\i<=l.length) (fun st=>l.length-st.1.toNat) ?_ ⟨0,by simp,dk _⟩ (by simp)]
 ·rfl
 ·rintro st ⟨i,rfl,hi⟩;rcases aE i l.length with hlt|hge
  ·refine .inl ⟨_,?_,⟨i+1,rfl,hlt⟩,by simp; omega⟩;have e3:w64 ((i:Int)+1)=((i+1:Nat):Int):=by rw [aQ (by omega)]; simp
   have hlen:(l.take i++List.replicate (l.length-i) bl).length=l.length:=by simp; omega
   simp only [pi,hlt,lI,bA,bd hlt,bsm,DE,xg (hs.sht i hlt),e3];rw [bd (show i<(l.take i++List.replicate (l.length-i) bl).length by omega)];simp only [bsm];rw [kR (show i<(l.take i++List.replicate (l.length-i) bl).length by omega)];simp only [bsm];rw [xf (cR (DE _ _)),Kz];simp only [bsm];have:(l.take i++List.replicate (l.length-i) bl).set i l[i]=l.take (i+1)++List.replicate (l.length-(i+1)) bl:=by
    rw [pF _ _ (by rw [aA]; omega),aA,cV hi,nF,show l.length-i=(l.length-(i+1))+1 by omega,List.replicate_succ,td,ak hlt,aO];rfl
   rw [this]
  ·obtain rfl:i=l.length:=by omega
   exact .inr (by simp)
def tch (l:List aa) (a n j:Nat):Bool:=(decide (a<=j) && decide (j<a+n)) || (decide (kd l j=2) && decide (a<=j+1) && decide (j+1<a+n)) || (decide (kd l j=3) && decide (a+1<=j) && decide (j<a+n+1))
def pc (l:List aa) (a:Nat) (p:List aa) (j:Nat):aa:=
 if a<=j/\j<a+p.length then p.getD (j-a) bl else if tch l a p.length j=true then bl else l.getD j bl
def pl (l:List aa) (a:Nat) (p:List aa):List aa:=(List.range l.length).map (pc l a p)
def pw (l:List aa) (w:Bool) (a n:Nat):Bool:=w && !(decide (0<l.length) && tch l a n (l.length-1))
theorem jq (l:List aa) (a:Nat) (p:List aa):(pl l a p).length=l.length:=by simp [pl]
theorem se {a:Nat}{p:List aa}{j:Nat}(h:j<l.length):(pl l a p)[j]? = some (pc l a p j):=by simp [pl,h]
theorem Jd {a:Nat}{p:List aa}{j:Nat}(h:j<(pl l a p).length):(pl l a p)[j]=pc l a p j:=by simp [pl]
theorem Gk {a:Nat}{p:List aa}{j:Nat}(h:j<l.length):kd (pl l a p) j=(pc l a p j).Kind:=by simp [kd,se h]
theorem Snd.two (h:Snd l){j:Nat}(hj:kd l j=2):kd l (j+1)=3:=by
 have hlt:j<l.length:=by
  rcases aE j l.length with h|h
  ·exact h
  ·rw [lJ h] at hj; cases hj
 exact (h j hlt).2.1 (by rw [<-jy hlt]; exact hj)
theorem Snd.three (h:Snd l){j:Nat}(hj:kd l j=3):0<j/\kd l (j-1)=2:=by
 have hlt:j<l.length:=by
  rcases aE j l.length with h|h
  ·exact h
  ·rw [lJ h] at hj; cases hj
 exact (h j hlt).2.2 (by rw [<-jy hlt]; exact hj)
theorem vd {j:Nat}(h:kd l j≠0):j<l.length:=by
 rcases aE j l.length with h'|h'
 ·exact h'
 ·exact absurd (lJ h') h
theorem Snd.rg (h:Snd l){j:Nat}(hj:j<l.length):rgt (l.getD j bl)=true:=by
 rw [aq,af hj];exact (h j hj).1
theorem mM (l:List aa) (j:Nat):(l.getD j bl).Kind=kd l j:=by
 rw [aq,kd]
 cases l[j]? <;> rfl
theorem Snd.paint {a:Nat}{p:List aa}(h:Snd l) (hp:Snd p) (ha:a+p.length<=l.length):Snd (pl l a p):=fun j hj=>by
 rw [jq] at hj;rw [Jd];have kpc:∀i,i<l.length->(pc l a p i).Kind=if a<=i/\i<a+p.length then kd p (i-a) else if tch l a p.length i=true then 0 else kd l i:=fun i hi=>by
  unfold pc;split
  ·exact mM _ _
  ·split
   ·rfl
   ·exact mM _ _
 have kall:∀i,kd (pl l a p) i=if i<l.length then (if a<=i/\i<a+p.length then kd p (i-a) else if tch l a p.length i=true then 0 else kd l i) else 0:=fun i=>by
  by_cases hi:i<l.length
  ·rw [ae hi,Gk hi,kpc i hi]
  ·rw [ab hi,lJ (by rw [jq]; omega)]
 refine ⟨?_,fun h2=>?_,fun h3=>?_⟩
 ·unfold pc;split
  ·exact hp.rg (by omega)
  ·split
   ·rfl
   ·exact h.rg hj
 ·rw [kpc j hj] at h2;rw [kall];by_cases hin:a<=j/\j<a+p.length
  ·rw [ae hin] at h2;have h4:=hp.two h2;have h5:j-a+1<p.length:=vd (by rw [h4]; decide);rw [ae (by omega),ae (by omega),show j+1-a=j-a+1 by omega]; exact h4
  ·rw [ab hin] at h2;split at h2
   ·cases h2
   ·rename_i ht
    have h4:=h.two h2;have h5:j+1<l.length:=vd (by rw [h4]; decide);simp only [tch,h2,lI,dy,aB,ao,am,JX,Bj] at ht;have h6:¬(a<=j+1/\j+1<a+p.length):=by omega
    have h7:¬tch l a p.length (j+1)=true:=by
     simp only [tch,h4,aB,ao,am];omega
    rw [ae h5,ab h6,ab h7]; exact h4
 ·rw [kpc j hj] at h3;by_cases hin:a<=j/\j<a+p.length
  ·rw [ae hin] at h3;have h4:=hp.three h3;refine ⟨by omega,?_⟩;rw [kall,ae (by omega),ae (by omega),show j-1-a=j-a-1 by omega]; exact h4.2
  ·rw [ab hin] at h3;split at h3
   ·cases h3
   ·rename_i ht
    have h4:=h.three h3;refine ⟨h4.1,?_⟩;simp only [tch,h3,lI,dy,aB,ao,am,JX,Bj] at ht;have h6:¬(a<=j-1/\j-1<a+p.length):=by omega
    have h7:¬tch l a p.length (j-1)=true:=by
     simp only [tch,h4.2,aB,ao,am];omega
    rw [kall,ae (by omega),ab h6,ab h7]; exact h4.2
theorem tn (l:List aa) (w:Bool) (a:Nat) (p:List aa) (hl:l.length<=1000000) (ha:a<=1000000) (hp:p.length<=1000000):iD l w a p=some (pl l a p,pw l w a p.length):=by
 unfold iD;rw [qF (s:=(w,([]:List aa),(0:Int))) (t:=(pw l w a p.length,pl l a p)) (fun st:Bool×List aa×Int=>∃i:Nat,st=(if i<l.length then w else pw l w a p.length,(pl l a p).take i,(i:Int))/\i<=l.length) (fun st=>l.length-st.2.2.toNat) ?_ ⟨0,?_,dk _⟩ (by simp)]
 ·rfl
 ·rintro st ⟨i,rfl,hi⟩;rcases aE i l.length with hlt|hge
  ·refine .inl ⟨_,?_,⟨i+1,rfl,hlt⟩,by simp; omega⟩;have e3:w64 ((i:Int)+1)=((i+1:Nat):Int):=by rw [aQ (by omega)]; simp
   have e4:w64 ((a:Int)+(p.length:Int))=((a+p.length:Nat):Int):=by rw [aQ (by omega)]; simp
   have e5:w64 ((i:Int)-(a:Int))=(i:Int)-a:=aQ (by omega);have e6:w64 ((i:Int)-1)=(i:Int)-1:=aQ (by omega);have hd:decide ((i:Int)<(l.length:Int))=true:=by simp; exact hlt
   simp only [hd,bA,ae hlt,bd hlt,bsm,aX,bu,e3,e4,e5,e6];have happ:∀x:aa,x=pc l a p i->app ((pl l a p).take i) [x]=some ((pl l a p).take (i+1)):=fun x hx=>by
    subst hx;rw [fg (by rw [aA,jq]; simp; omega),ak (show i<(pl l a p).length by rw [jq]; exact hlt),Jd]
   by_cases hin:a<=i/\i<a+p.length
   ·have c1:(decide ((i:Int)>=a) && decide ((i:Int)<((a+p.length:Nat):Int)))=true:=by simp; omega
    obtain ⟨q,hq⟩:∃q:Nat,q=i-a:=⟨_,rfl⟩;have c2:(i:Int)-a=(q:Int):=by omega
    have hqp:q<p.length:=by omega
    simp only [c1,bA,c2,bd hqp,bsm,cP,kh,iB,aj,aU,Bool.true_or,I8];rw [happ ⟨p[q].Kind,p[q].Text⟩ (by rw [pc,ae hin,<-hq,aq,af hqp]; rfl)];by_cases hn:i+1=l.length
    ·have c3:(((i+1:Nat):Int)==(l.length:Int))=true:=by simp; omega
     have c4:pw l w a p.length=false:=by
      have:tch l a p.length (l.length-1)=true:=by simp [tch]; omega
      simp [pw,this]; omega
     simp only [c3,bA,bsm,c4];rw [ab (by omega)]
    ·have c3:(((i+1:Nat):Int)==(l.length:Int))=false:=by simp; omega
     simp only [c3,aj,aU,bsm];rw [ae (show i+1<l.length by omega)]
   ·have c1:(decide ((i:Int)>=a) && decide ((i:Int)<((a+p.length:Nat):Int)))=false:=by simp; omega
    have c5:((l[i].Kind==2 && decide (((i+1:Nat):Int)>=a) && decide (((i+1:Nat):Int)<((a+p.length:Nat):Int))) || (l[i].Kind==3 && decide ((i:Int)-1>=a) && decide ((i:Int)-1<((a+p.length:Nat):Int))))=tch l a p.length i:=by
     rw [ci];simp only [tch,jy hlt,aB,ao,aS,am];omega
    simp only [c1,aj,aU,bsm,eK,jf,dz,dy];simp only [c5]
    cases ht:tch l a p.length i with
    | true=>
     simp only [bA,bsm,I8];rw [happ ⟨0,[]⟩ (by rw [pc,ab hin,ae ht]; rfl)];by_cases hn:i+1=l.length
     ·have c3:(((i+1:Nat):Int)==(l.length:Int))=true:=by simp; omega
      have c4:pw l w a p.length=false:=by
       have e:l.length-1=i:=by omega
       simp [pw,e,ht]; omega
      simp only [c3,bA,bsm,c4];rw [ab (by omega)]
     ·have c3:(((i+1:Nat):Int)==(l.length:Int))=false:=by simp; omega
      simp only [c3,aj,aU,bsm];rw [ae (show i+1<l.length by omega)]
    | false=>
     simp only [aj,aU,bsm,Hq];rw [happ ⟨l[i].Kind,l[i].Text⟩ (by rw [pc,ab hin,ab (by simp [ht]),aq,af hlt]; rfl)];by_cases hn:i+1=l.length
     ·have c4:pw l w a p.length=w:=by
       have e:l.length-1=i:=by omega
       simp [pw,e,ht]
      simp only [bsm,c4,ite_self]
     ·simp only [bsm];rw [ae (show i+1<l.length by omega)]
  ·obtain rfl:i=l.length:=by omega
   refine .inr ?_;have e:(pl l a p).take l.length=pl l a p:=aG (by rw [jq]; exact av _);simp [e]
 ·by_cases h0:0<l.length
  ·simp [h0]
  ·simp [h0,pw]
end Go.Proofs.YtkgjnbiiiifoaaaGreatDoor
namespace Go.Proofs.YtkgjnbiiiifoaaaGreatDoor
open Go Go.Lt
variable {s:Sto}{k:Nat}{l p:List aa}{w:Bool}
theorem Ey {i j:Nat}(h:i≠j) (c:aa):kd (l.set i c) j=kd l j:=by simp [kd,aW h]
theorem pZ (h:s.row_Row[k]? = some ⟨l,w⟩) (hs:Snd l) (hl:l.length<=1024) (hp:Snd p){a:Nat}(hn:1<=p.length) (ha:a+p.length<=l.length):
  ei s (some k) a p=some (s.sr k ⟨pl l a p,pw l w a p.length⟩,Er.nil):=by
 unfold ei;have hk:=cR h;obtain ⟨b,hb1,hb2⟩:=yd p (by omega);have hb:b=true:=hb2.2 hp;subst hb;have e1:w64 ((l.length:Int)-(a:Int))=(l.length:Int)-a:=aQ (by omega);have e2:w64 ((a:Int)+(p.length:Int))=((a+p.length:Nat):Int):=by rw [aQ (by omega)]; simp
 have o1:decide ((a:Int)<0)=false:=by simp
 have o2:decide ((a:Int)>(l.length:Int))=false:=by simp; omega
 have o3:decide ((p.length:Int)>(l.length:Int)-(a:Int))=false:=by simp; omega
 have o4:((p.length:Int)==0)=false:=by rw [fe]; omega
 simp only [bJ,dR,o1,o2,o3,o4,h,e1,e2,hb1,bsm,aj,aU,cP,A9 h a];obtain ⟨l1,hl1⟩:∃l1,l1=if kd l a=3 then l.set (a-1) bl else l:=⟨_,rfl⟩;have hlen1:l1.length=l.length:=by rw [hl1]; split <;> simp
 have left:(if (kd l a==3)=true then (fY s (some k) (w64 ((a:Int)-1)) (⟨0,([]:List Int)⟩:aa)).bind fun x_60=>(some x_60:Option Sto) else (some s:Option Sto))=some (s.sr k ⟨l1,w⟩):=by
  by_cases h3:kd l a=3
  ·have h4:=hs.three h3;have h5:a<l.length:=vd (by rw [h3]; decide);rw [ae (by simpa using h3),show w64 ((a:Int)-1)=((a-1:Nat):Int) by rw [aQ (by omega)]; omega,zT h (by omega) (by omega) (by simp)];rw [hl1,ae h3];have:decide (a-1+1=l.length)=false:=by simp; omega
   simp only [bsm,this,eK,I8];rfl
  ·rw [ab (by simpa using h3),hl1,ab h3,AZ h]
 rw [left];simp only [bsm];obtain ⟨l2,hl2⟩:∃l2,l2=if kd l (a+p.length)=3 then l1.set (a+p.length) bl else l1:=⟨_,rfl⟩;obtain ⟨w2,hw2⟩:∃w2,w2=(w && !(decide (kd l (a+p.length)=3) && decide (a+p.length+1=l.length))):=⟨_,rfl⟩;have hlen2:l2.length=l.length:=by rw [hl2]; split <;> simp [hlen1]
 have hget1:(s.sr k ⟨l1,w⟩).row_Row[k]? = some ⟨l1,w⟩:=uh hk;have hkd1:kd l1 (a+p.length)=kd l (a+p.length):=by
  rw [hl1]; split
  ·exact Ey (by omega) _
  ·rfl
 have right:((ii (s.sr k ⟨l1,w⟩) (some k) ((a+p.length:Nat):Int)).bind fun x_71=>
   if (x_71==3)=true then
   (fY (s.sr k ⟨l1,w⟩) (some k) ((a+p.length:Nat):Int) (⟨0,([]:List Int)⟩:aa)).bind fun x_77=>
   (some x_77:Option Sto)
   else
   (some (s.sr k ⟨l1,w⟩):Option Sto))=some (s.sr k ⟨l2,w2⟩):=by
  rw [A9 hget1,hkd1];simp only [bsm];by_cases h3:kd l (a+p.length)=3
  ·have h5:a+p.length<l.length:=vd (by rw [h3]; decide);rw [ae (by simpa using h3),zT hget1 (by omega) (by omega) (by simp)];simp only [bsm,C8];rw [hl2,ae h3,hw2,hlen1];simp only [h3,lI,dy];rfl
  ·rw [ab (by simpa using h3),hl2,ab h3,hw2];simp [h3]
 rw [right];simp only [bsm];rw [qF (s:=((0:Int),s.sr k ⟨l2,w2⟩)) (t:=s.sr k ⟨l2.take a++p++l2.drop (a+p.length),w2 && !decide (a+p.length=l.length)⟩)
  (fun st:Int×Sto=>∃i:Nat,st=((i:Int),s.sr k ⟨l2.take a++p.take i++l2.drop (a+i),w2 && !(decide (0<i) && decide (a+i=l.length))⟩)/\i<=p.length) (fun st=>p.length-st.1.toNat) ?_ ⟨0,?_,dk _⟩ (by simp)]
 ·simp only [bsm,aK,ib,qw]
  congr 1
  congr 1
  ·
   apply bi;intro j;rcases aE j l.length with hj|hj
   ·rw [se hj];have g1:∀j,j<l.length->j≠a+p.length->l1[j]? = some (if kd l a=3/\j=a-1 then bl else l.getD j bl):=fun j hj _=>by
     rw [hl1];split
     ·rename_i h3
      by_cases hja:j=a-1
      ·subst hja;rw [bp (by omega),ae ⟨h3,rfl⟩]
      ·rw [aW (wx hja),ab (fun e=>hja e.2),af hj,aq,af hj]; rfl
     ·rename_i h3
      rw [ab (fun e=>h3 e.1),af hj,aq,af hj]; rfl
    have lw:(l2.take a).length=a:=by rw [aA]; omega
    rcases aE j a with hja|hja
    ·rw [aO,aC (by omega),aT,ae hja];have e:l2[j]? = l1[j]? :=by
      rw [hl2]; split
      ·exact aW (by omega)
      ·rfl
     have hp0:¬(a<=j/\j<a+p.length):=by omega
     rw [e,g1 j hj (by omega),pc,ab hp0]
     congr 1
     by_cases hc:kd l a=3/\j=a-1
     ·rw [ae hc,ae];have h4:=hs.three hc.1;simp only [tch,aB,ao,am];refine .inl (.inr ⟨⟨?_,?_⟩,?_⟩)
      ·rw [hc.2]; exact h4.2
      ·omega
      ·omega
     ·rw [ab hc,ab];simp only [tch,aB,ao,am,JX,Bj];refine ⟨⟨fun h=>by omega,fun h2=>?_⟩,fun h=>by omega⟩;have h3:=hs.two h2.1;have:j+1=a:=by omega
      rw [this] at h3;exact absurd ⟨h3,by omega⟩ hc
    ·rcases aE j (a+p.length) with hjn|hjn
     ·rw [aO,be (by omega),aC (by omega),lw,pc,ae ⟨hja,hjn⟩,aq,af (by omega)];rfl
     ·rw [be (by rw [ax]; omega),bO,ax,lw,show a+p.length+(j-(a+p.length))=j by omega];rw [pc,ab (by omega)];by_cases hc:kd l (a+p.length)=3/\j=a+p.length
      ·rw [hl2,ae hc.1,hc.2,bp (by omega),ae];simp only [tch,aB,ao,am];exact .inr ⟨⟨hc.1,by omega⟩,by omega⟩
      ·have e:l2[j]? = some (l.getD j bl):=by
        have e2:l1[j]? = some (l.getD j bl):=by
         rw [hl1]; split
         ·rw [aW (by omega),aq,af hj]; rfl
         ·rw [aq,af hj]; rfl
        rw [hl2]; split
        ·rename_i h3
         rw [aW (fun e=>hc ⟨h3,e.symm⟩),e2]
        ·exact e2
       rw [e,ab];simp only [tch,aB,ao,am,JX,Bj];refine ⟨⟨fun h=>by omega,fun h=>by omega⟩,fun h2=>?_⟩;intro h4;have:j=a+p.length:=by omega
       exact hc ⟨by rw [<-this]; exact h2.1,this⟩
   ·rw [az (l:=pl l a p) (by rw [jq]; exact hj),az (by simp only [ax,aA,br]; omega)]
  ·
   rw [hw2,pw,Bool.and_assoc]
   congr 1
   rw [<-Bool.not_or]
   congr 1
   have h2:kd l (l.length-1)≠2:=fun h2=>by
    have:=hs.two h2;rw [show l.length-1+1=l.length by omega,lJ (av _)] at this;cases this
   rw [ci];simp only [tch,aB,ao,am];constructor
   ·rintro (⟨h3,h4⟩|h4)
    ·refine ⟨by omega,.inr ⟨⟨?_,by omega⟩,by omega⟩⟩;rw [show l.length-1=a+p.length by omega]; exact h3
    ·exact ⟨by omega,.inl (.inl ⟨by omega,by omega⟩)⟩
   ·rintro ⟨h0,(⟨h3,h4⟩|⟨⟨h3,_⟩,_⟩)|⟨⟨h3,h4⟩,h5⟩⟩
    ·exact .inr (by omega)
    ·exact absurd h3 h2
    ·by_cases hx:a+p.length=l.length
     ·exact .inr hx
     ·have:l.length-1=a+p.length:=by omega
      exact .inl ⟨by rw [<-this]; exact h3,by omega⟩
 ·rintro st ⟨i,rfl,hi⟩;rcases aE i p.length with hlt|hge
  ·refine .inl ⟨_,?_,⟨i+1,rfl,hlt⟩,by simp; omega⟩;have e3:w64 ((i:Int)+1)=((i+1:Nat):Int):=by rw [aQ (by omega)]; simp
   have e4:w64 ((a:Int)+(i:Int))=((a+i:Nat):Int):=by rw [aQ (by omega)]; simp
   have hd:decide ((i:Int)<(p.length:Int))=true:=by simp; exact hlt
   have hli:(l2.take a++p.take i++l2.drop (a+i)).length=l.length:=by
    simp only [ax,aA,br]; omega
   simp only [hd,bA,bd hlt,bsm,e3,e4];rw [zT (uh hk) (by rw [hli]; omega) (by rw [hli]; omega) (hp.sht i hlt)];simp only [bsm,C8,hli];have hset:(l2.take a++p.take i++l2.drop (a+i)).set (a+i) p[i]=l2.take a++p.take (i+1)++l2.drop (a+(i+1)):=by
    have hx:(l2.take a++p.take i).length=a+i:=by simp only [ax,aA]; omega
    rw [pF _ _ (by omega),hx,nF,tL (show a+i<l2.length by omega),td,ak hlt];simp only [aO,dv,bW,uD]
   rw [hset];have hwe:((w2 && !(decide (0<i) && decide (a+i=l.length))) && !decide (a+i+1=l.length))=(w2 && !(decide (0<i+1) && decide (a+(i+1)=l.length))):=by
    have:decide (a+i=l.length)=false:=by simp; omega
    rw [this];simp [uD]
   rw [hwe]
  ·obtain rfl:i=p.length:=by omega
   refine .inr ?_;have:decide (0<p.length)=true:=by simp; omega
   simp [this]
 ·simp
def cl (n:Int) (m:Nat):Nat:=(max 0 (min n m)).toNat
theorem oD (n:Int) (m:Nat):cl n m<=m:=by unfold cl; omega
end Go.Proofs.YtkgjnbiiiifoaaaGreatDoor
namespace Go.Proofs.YtkgjnbiiiifoaaaGreatDoor
open Go Go.Lt
variable {s:Sto}{g k W:Nat}{ks:List Nat}{l p:List aa}{w:Bool}
def Sto.sg (s:Sto) (g:Nat) (x:bV):Sto:={ s with grid_Grid:=s.grid_Grid.set g x}
theorem A1 {x:bV}(h:g<s.grid_Grid.length):s.set_grid_Grid g x=some (s.sg g x):=by
 simp only [Sto.set_grid_Grid,h,bA];rfl
theorem Fw {x:bV}(h:g<s.grid_Grid.length):(s.sg g x).grid_Grid[g]? = some x:=by simp [Sto.sg,h]
theorem KT (s:Sto) (g:Nat) (x y:bV):(s.sg g x).sg g y=s.sg g y:=by simp [Sto.sg]
theorem KU {x:bV}(h:s.grid_Grid[g]? = some x):s.sg g x=s:=by
 obtain ⟨h1,h2⟩:=List.getElem?_eq_some_iff.1 h;unfold Sto.sg;rw [<-h2,xc]
def ln (s:Sto) (k:Nat):ah:=match s.row_Row[k]? with|some r=>⟨r.cells,r.wrap⟩|none=>⟨[],false⟩
theorem oP {r:bm}(h:s.row_Row[k]? = some r):ln s k=⟨r.cells,r.wrap⟩:=by simp [ln,h]
def Rw (s:Sto) (W k:Nat):Prop:=∃r,s.row_Row[k]? = some r/\Snd r.cells/\r.cells.length=W
structure Gw (s:Sto) (g:Nat) (ks:List Nat) (W:Nat):Prop where
 g:s.grid_Grid[g]? = some ⟨ks.map some⟩
 r:∀k∈ks,Rw s W k
 h1:1<=ks.length
 h2:ks.length<=1024
 w1:1<=W
 w2:W<=1024
theorem Gw.at (h:Gw s g ks W){i:Nat}(hi:i<ks.length):Rw s W ks[i]:=h.r _ (ay hi)
theorem eW (h:Gw s g ks W):bM s (some g)=some (ks.length:Int):=by simp [bM,h.g]
theorem fm (h:Gw s g ks W){i:Nat}(hi:i<ks.length):bz s (some g) i=some (some ks[i]):=by
 unfold bz;rw [eW h];simp only [bsm,bu];rw [ab (by simp; omega)];simp only [bsm,h.g];rw [bd (by simpa using hi)];simp
theorem vi (h:Gw s g ks W){i:Int}(hi:i<0\/(ks.length:Int)<=i):bz s (some g) i=some none:=by
 unfold bz;rw [eW h];simp only [bsm,bu];rw [ae (by simp; omega)]
theorem zF (h:Rw s W k):bN s (some k)=some (W:Int):=by
 obtain ⟨r,h1,_,h3⟩:=h;rw [jF (l:=r.cells) (w:=r.wrap) h1,h3]
theorem jI (h:Gw s g ks W):cg s (some g)=some (W:Int):=by
 unfold cg;rw [show (0:Int)=((0:Nat):Int) from rfl,fm h (show 0<ks.length from h.h1)];simp only [bsm];rw [zF (h.at h.h1)];rfl
theorem Bz (h:Gw s g ks W){i:Nat}(hi:i<ks.length) (hk:Rw s W k):eN s (some g) i (some k)=some (s.sg g ⟨(ks.set i k).map some⟩,true):=by
 unfold eN;rw [fm h hi];simp only [bsm,zF (h.at hi),zF hk,bJ,dR];rw [ab (by simp)];simp only [h.g,bsm];rw [bd (by simpa using hi),kR (by simpa using hi)];simp only [bsm];rw [A1 (cR h.g)];simp
theorem Gw.set (h:Gw s g ks W){i:Nat}(hk:Rw s W k):Gw (s.sg g ⟨(ks.set i k).map some⟩) g (ks.set i k) W:=
 ⟨Fw (cR h.g),fun j hj=>by
  rcases Hr hj with hj|rfl
  ·exact h.r j hj
  ·exact hk,by simpa using h.h1,by simpa using h.h2,h.w1,h.w2⟩
theorem CF (h:Gw s g ks W):jk s (some g)=some (ks.map (ln s)):=by
 have hh:=h.h2;have hw:=h.w2;unfold jk;rw [eW h];simp only [bsm];obtain ⟨t,h1,h2⟩:=eV (σ:=(List ah)×Int) (τ:=List ah) (n:=ks.length) (fuel:=((ks.length:Int)-0).toNat+1) (s:=(([]:List ah),0))
  (fun i q=>q=((ks.take i).map (ln s),(i:Int))) (fun t=>t=ks.map (ln s))
  (step:=fun s_9=>
 if decide (s_9.2<(ks.length:Int)) then
 (s.grid_Grid[g]?).bind fun o_19=>
 (idx o_19.rows s_9.2).bind fun x_21=>
 (idx o_19.rows s_9.2).bind fun x_28=>
 (eM s x_21).bind fun x_30=>
 (jN s x_28).bind fun x_31=>
 (app s_9.1 ([(⟨x_30,x_31⟩:ah)]:List ah)).bind fun x_34=>
 some (.inl (x_34,(w64 (s_9.2+1))))
 else
 some (.inr s_9.1))
  (fun i q hi e=>by
   subst e;refine .inl ⟨_,?_,rfl⟩;obtain ⟨r,r1,r2,r3⟩:=h.at hi;have e5:w64 ((i:Int)+1)=((i+1:Nat):Int):=by rw [aQ (by omega)]; simp
   have hd:decide ((i:Int)<(ks.length:Int))=true:=by simp; exact hi
   have hi2:i<(ks.map some).length:=by simpa using hi
   simp only [hd,bA,bsm,h.g,bd hi2,eo,e5];rw [tl (l:=r.cells) (w:=r.wrap) r1 (by omega) r2.sht,FL (l:=r.cells) (w:=r.wrap) r1];simp only [bsm];rw [fg (by simp; omega)];simp only [bsm];rw [ak hi,bK];simp [oP r1])
  (fun q e=>⟨_,by subst e; simp,rfl⟩)
  (by simp) (by omega)
 subst h2;rw [h1];rfl
def Okl (W:Nat) (x:ah):Prop:=Snd x.Cells/\x.Cells.length=W
theorem yK (h:Gw s g ks W):∀x∈ks.map (ln s),Okl W x:=fun x hx=>by
 obtain ⟨k,hk,rfl⟩:=List.mem_map.1 hx;obtain ⟨r,r1,r2,r3⟩:=h.r k hk;rw [oP r1];exact ⟨r2,r3⟩
theorem Jz {a b:Sto}(h1:a.row_Row=b.row_Row) (h2:a.grid_Grid=b.grid_Grid) (h3: { a with row_Row:=b.row_Row,grid_Grid:=b.grid_Grid}=b):a=b:=
 Hp (show a= { a with row_Row:=b.row_Row,grid_Grid:=b.grid_Grid} by rw [<-h1,<-h2]) h3
def Sto.rst (s:Sto):Sto:={ s with row_Row:=[],grid_Grid:=[]}
def Sto.oth (s:Sto):Sto:={ s with row_Row:=[],grid_Grid:=[],place_Pen:=[]}
theorem lB {a b:Sto}(h:a.rst=b.rst):a.place_Pen=b.place_Pen:=by
 have:=nb Sto.place_Pen h;exact this
theorem tj {a b:Sto}(h:a.rst=b.rst):a.oth=b.oth:=by
 have:=nb (fun x:Sto=>({ x with place_Pen:=[]}:Sto)) h;exact this
def Sto.addr (s:Sto) (xs:List bm):Sto:={ s with row_Row:=s.row_Row++xs}
theorem Hc (s:Sto) (xs:List bm):(s.addr xs).row_Row.length=s.row_Row.length+xs.length:=by simp [Sto.addr]
theorem Ca {xs:List bm}(h:k<s.row_Row.length):(s.addr xs).row_Row[k]? = s.row_Row[k]? :=aC h
theorem vI {xs:List bm}{i:Nat}(h:i<xs.length):(s.addr xs).row_Row[s.row_Row.length+i]? = some xs[i]:=by
 simp [Sto.addr,be,h]
theorem He (s:Sto) (xs:List bm) (x:bm):(s.addr xs).add_row_Row x=s.addr (xs++ [x]):=by simp [Sto.addr,Sto.add_row_Row]
theorem Cb (s:Sto):s.addr []=s:=by simp [Sto.addr]
theorem Rw.lt (h:Rw s W k):k<s.row_Row.length:=by obtain ⟨r,h,_⟩:=h; exact cR h
theorem Rw.addr {xs:List bm}(h:Rw s W k):Rw (s.addr xs) W k:=by
 obtain ⟨r,h1,h2⟩:=h;exact ⟨r,by rw [Ca (cR h1)]; exact h1,h2⟩
theorem Gw.addr {xs:List bm}(h:Gw s g ks W):Gw (s.addr xs) g ks W:=⟨h.g,fun k hk=>(h.r k hk).addr,h.h1,h.h2,h.w1,h.w2⟩
theorem xK {xs:List bm}(h:k<s.row_Row.length):ln (s.addr xs) k=ln s k:=by unfold ln; rw [Ca h]
theorem Gb {xs:List bm}{i:Nat}(h:i<xs.length):ln (s.addr xs) (s.row_Row.length+i)=⟨xs[i].cells,xs[i].wrap⟩:=oP (vI h)
def lr (x:ah):bm:=⟨x.Cells,x.Wrap⟩
theorem Jk {L:List ah}(h1:1<=L.length) (h2:L.length<=1024)
  (hok:∀i (h:i<L.length),1<=L[i].Cells.length/\L[i].Cells.length<=1024/\Snd L[i].Cells/\L[i].Cells.length=(L[0]'(by omega)).Cells.length):
  Gw ((s.addr (L.map lr)).add_grid_Grid ⟨(List.range' s.row_Row.length L.length).map some⟩) s.grid_Grid.length (List.range' s.row_Row.length L.length) (L[0]'(by omega)).Cells.length/\
   (List.range' s.row_Row.length L.length).map (ln ((s.addr (L.map lr)).add_grid_Grid ⟨(List.range' s.row_Row.length L.length).map some⟩))=L:=by
 have hr:∀i (h:i<L.length),((s.addr (L.map lr)).add_grid_Grid ⟨(List.range' s.row_Row.length L.length).map some⟩).row_Row[s.row_Row.length+i]? = some (lr L[i]):=fun i h=>by
  have:=vI (s:=s) (xs:=L.map lr) (i:=i) (by simpa using h);rw [eo] at this;exact this
 refine ⟨⟨by simp [Sto.add_grid_Grid,Sto.addr],fun k hk=>?_,by simpa using h1,by simpa using h2,(hok 0 (by omega)).1,(hok 0 (by omega)).2.1⟩,?_⟩
 ·rw [Cg] at hk;have hi:k-s.row_Row.length<L.length:=by omega
  have:=hr _ hi;rw [show s.row_Row.length+(k-s.row_Row.length)=k by omega] at this;exact ⟨_,this,(hok _ hi).2.2.1,(hok _ hi).2.2.2⟩
 ·refine MD (by simp) fun i h1 h2=>?_;rw [eo,List.getElem_range',oK,oP (hr i h2)];rfl
theorem icl (a:Int) (m:Nat):bb 0 (aR a (m:Int))=((cl a m:Nat):Int):=by simp only [iC,ey,cl]; omega
theorem zk (h:Gw s g ks W) (a b n:Int):mz s (some g) a b n=some (⟨(cl a ks.length:Nat),(cl b ks.length:Nat),min n ((cl b ks.length:Int)-(cl a ks.length:Int))⟩,decide (cl a ks.length<cl b ks.length) && decide (0<n)):=by
 have h1:=oD a ks.length;have h2:=oD b ks.length;have hh:=h.h2;unfold mz;rw [eW h];simp only [bsm,icl,aX];rw [ey,aQ (by omega)];simp
theorem wE (h:Gw s g ks W){a b:Nat}(hab:a<=b) (hb:b<=ks.length):ky s (some g) a b=some (((ks.drop a).take (b-a)).map some):=by
 have hh:=h.h2;unfold ky;obtain ⟨t,h1,h2⟩:=eV (σ:=(List (Option Nat))×Int) (τ:=List (Option Nat)) (n:=b-a) (fuel:=((b:Int)-(a:Int)).toNat+1) (s:=(([]:List (Option Nat)),(a:Int)))
  (fun i q=>q=(((ks.drop a).take i).map some,((a+i:Nat):Int))) (fun t=>t=((ks.drop a).take (b-a)).map some)
  (step:=fun s_8=>
 if decide (s_8.2<(b:Int)) then
 (bz s (some g) s_8.2).bind fun x_16=>
 (app s_8.1 ([x_16]:List (Option Nat))).bind fun x_18=>
 some (.inl (x_18,(w64 (s_8.2+1))))
 else
 some (.inr s_8.1))
  (fun i q hi e=>by
   subst e;refine .inl ⟨_,?_,rfl⟩;have e5:w64 (((a+i:Nat):Int)+1)=((a+(i+1):Nat):Int):=by rw [aQ (by omega)]; simp; omega
   have hd:decide (((a+i:Nat):Int)<(b:Int))=true:=by simp; omega
   simp only [hd,bA];rw [fm h (show a+i<ks.length by omega)];simp only [bsm,e5];rw [fg (by simp; omega)];simp only [bsm];rw [ak (by simp; omega),bK];simp)
  (fun q e=>by
   subst e;have hd:decide (((a+(b-a):Nat):Int)<(b:Int))=false:=by simp; omega
   exact ⟨_,by simp only [hd]; rfl,rfl⟩)
  (by simp) (by omega)
 subst h2;rw [h1];rfl
def bk (W:Nat):bm:=⟨List.replicate W bl,false⟩
theorem tN (h:Gw s g ks W){n:Nat}(hn:n<=1024):jd s (some g) n=some (s.addr (List.replicate n (bk W)),(List.range' s.row_Row.length n).map some):=by
 unfold jd;obtain ⟨t,h1,h2⟩:=eV (σ:=(List (Option Nat))×Int×Sto) (τ:=(List (Option Nat))×Sto) (n:=n) (fuel:=((n:Int)-0).toNat+1) (s:=(([]:List (Option Nat)),0,s))
  (fun i q=>q=((List.range' s.row_Row.length i).map some,(i:Int),s.addr (List.replicate i (bk W)))) (fun t=>t=((List.range' s.row_Row.length n).map some,s.addr (List.replicate n (bk W))))
  (step:=fun s_8=>
 if decide (s_8.2.1<(n:Int)) then
 (cg s_8.2.2 (some g)).bind fun x_13=>
 (lC s_8.2.2 x_13).bind fun x_14=>
 (app s_8.1 ([x_14.2]:List (Option Nat))).bind fun x_16=>
 some (.inl (x_16,(w64 (s_8.2.1+1)),x_14.1))
 else
 some (.inr (s_8.1,s_8.2.2)))
  (fun i q hi e=>by
   subst e;refine .inl ⟨_,?_,rfl⟩;have e5:w64 ((i:Int)+1)=((i+1:Nat):Int):=by rw [aQ (by omega)]; simp
   have hd:decide ((i:Int)<(n:Int))=true:=by simp; exact hi
   simp only [hd,bA];rw [jI (h.addr (xs:=List.replicate i (bk W)))];simp only [bsm,zU,zj h.w1 h.w2,e5];rw [fg (by simp; omega)];simp only [bsm];rw [He,Hc,Mi,bK,LL];simp [bk])
  (fun q e=>⟨_,by subst e; simp,rfl⟩)
  (by simp [Cb]) (by omega)
 subst h2;rw [h1];rfl
def ov (ks:List Nat) (F:Nat) (p:List Nat):List Nat:=ks.take F++p++ks.drop (F+p.length)
theorem vT {F:Nat}{p:List Nat}(h:F+p.length<=ks.length):(ov ks F p).length=ks.length:=by simp [ov]; omega
theorem JS {F i:Nat}{p:List Nat}(h:F+p.length<=ks.length) (hi:i<p.length):(ov ks F (p.take i)).set (F+i) p[i]=ov ks F (p.take (i+1)):=by
 unfold ov;have h1:(ks.take F++p.take i).length=F+i:=by simp; omega
 rw [pF _ _ (by omega),h1,nF,aA,aA,cV (wA hi),cV (show i+1<=p.length by omega),tL (show F+i<ks.length by omega),td,ak hi];simp only [aO,dv,bW,uD]
def off (s:Sto) (k:Nat):Sto:=s.sr k ⟨(ln s k).Cells,false⟩
theorem BB (h:Rw s W k):ft s (some k) false=some (off s k):=by
 obtain ⟨r,h1,_⟩:=h;rw [xz (l:=r.cells) (w:=r.wrap) h1];unfold off;rw [oP h1]
theorem Rw.off {j:Nat}(h:Rw s W j) (hk:Rw s W k):Rw (off s k) W j:=by
 obtain ⟨r,h1,h2,h3⟩:=h;obtain ⟨q,k1,k2,k3⟩:=hk;by_cases e:k=j
 ·subst e;exact ⟨_,uh (cR k1),by rw [oP k1]; exact ⟨k2,k3⟩⟩
 ·exact ⟨r,(AY e).trans h1,h2,h3⟩
theorem Gw.off (h:Gw s g ks W) (hk:Rw s W k):Gw (off s k) g ks W:=⟨h.g,fun j hj=>(h.r j hj).off hk,h.h1,h.h2,h.w1,h.w2⟩
theorem J0 {j:Nat}(hk:Rw s W k):ln (off s k) j=if j=k then ⟨(ln s k).Cells,false⟩ else ln s j:=by
 by_cases e:k=j
 ·subst e;rw [ae rfl];exact oP (uh hk.lt)
 ·rw [ab (wx e)];unfold ln;rw [show (Go.Proofs.YtkgjnbiiiifoaaaGreatDoor.off s k).row_Row[j]? = s.row_Row[j]? from AY e]
theorem Bm (x:bV) (j:Nat):ln (s.sg g x) j=ln s j:=rfl
def offa (s:Sto) (ks:List Nat) (F:Nat):Sto:=if F=0 then s else off s (ks.getD (F-1) 0)
theorem xv (h:Gw s g ks W){F:Nat}{p:List Nat}(hp:F+p.length<=ks.length) (hr:∀k∈p,Rw s W k) (st:ic) (hF:st.from_=(F:Int)):
  eX s st (some g) (p.map some)=some (offa (s.sg g ⟨(ov ks F p).map some⟩) (ov ks F p) F)/\Gw (s.sg g ⟨(ov ks F p).map some⟩) g (ov ks F p) W:=by
 have hh:=h.h2;have key:∀i,i<=p.length->Gw (s.sg g ⟨(ov ks F (p.take i)).map some⟩) g (ov ks F (p.take i)) W:=fun i hi=>
  ⟨Fw (cR h.g),fun k hk=>by
   unfold ov at hk;rw [qS,qS] at hk;rcases hk with (hk|hk)|hk
   ·exact h.r k (ku hk)
   ·exact hr k (ku hk)
   ·exact h.r k (kv hk),by rw [vT (by simp; omega)]; exact h.h1,by rw [vT (by simp; omega)]; exact h.h2,h.w1,h.w2⟩
 have kend:=key p.length (av _);rw [cC] at kend;refine ⟨?_,kend⟩;unfold eX;rw [hF];obtain ⟨t,h1,h2⟩:=eV (σ:=Int×Sto) (τ:=Sto) (n:=p.length) (fuel:=(((p.map some).length:Int)-0).toNat+1) (s:=((0:Int),s))
  (fun i q=>q=((i:Int),s.sg g ⟨(ov ks F (p.take i)).map some⟩)) (fun t=>t=s.sg g ⟨(ov ks F p).map some⟩)
  (step:=fun s_7=>
 if decide (s_7.1<((p.map some).length:Int)) then
 (idx (p.map some) s_7.1).bind fun x_11=>
 (eN s_7.2 (some g) (w64 ((F:Int)+s_7.1)) x_11).bind fun x_22=>
 some (.inl ((w64 (s_7.1+1)),x_22.1))
 else
 some (.inr s_7.2))
  (fun i q hi e=>by
   subst e;refine .inl ⟨_,?_,rfl⟩;have e5:w64 ((i:Int)+1)=((i+1:Nat):Int):=by rw [aQ (by omega)]; simp
   have e6:w64 ((F:Int)+(i:Int))=((F+i:Nat):Int):=by rw [aQ (by omega)]; simp
   have hd:decide ((i:Int)<((p.map some).length:Int))=true:=by simp; exact hi
   have hi2:i<(p.map some).length:=by simpa using hi
   have hk:=key i (wA hi);simp only [hd,bA,bd hi2,bsm,eo,e5,e6];have hl:(ov ks F (p.take i)).length=ks.length:=vT (by simp; omega);rw [Bz hk (show F+i<(ov ks F (p.take i)).length by omega) (hr _ (ay hi))];simp only [bsm];rw [JS hp hi,KT])
  (fun q e=>by
   subst e;rw [cC];exact ⟨_,by simp,rfl⟩)
  (by
   simp only [iy,ib];refine ⟨rfl,(KU ?_).symm⟩;rw [h.g];simp [ov]) (by simp)
 subst h2;rw [h1];simp only [bsm];unfold offa;by_cases h0:F=0
 ·subst h0;rw [ae rfl,vi kend (by left; rw [aQ (by omega)]; omega)];rfl
 ·have e7:w64 ((F:Int)-1)=((F-1:Nat):Int):=by rw [aQ (by omega)]; omega
  have hl:(ov ks F p).length=ks.length:=vT hp;have hlt:F-1<(ov ks F p).length:=by omega
  rw [ab h0,e7,fm kend hlt];simp only [bsm];rw [BB (kend.at hlt),aq,af hlt];rfl
def dl:ah:=⟨[],false⟩
def mvb (W:Nat) (L:List ah) (F T m:Nat) (up:Bool) (i:Nat):ah:=
 if F<=i/\i<T then (if up then (if i+m<T then L.getD (i+m) dl else ⟨List.replicate W bl,false⟩) else (if F+m<=i then L.getD (i-m) dl else ⟨List.replicate W bl,false⟩)) else L.getD i dl
def mvl (W:Nat) (L:List ah) (F T m:Nat) (up:Bool) (i:Nat):ah:=
 if i+1=F\/(up=false/\i+1=T) then ⟨(mvb W L F T m up i).Cells,false⟩ else mvb W L F T m up i
def mv (W:Nat) (L:List ah) (F T:Nat) (n:Int) (up:Bool):List ah:=
 if F<T/\0<n then (List.range L.length).map (mvl W L F T (min n ((T:Int)-(F:Int))).toNat up) else L
theorem gd {i:Nat}(h:i<ks.length):ks.getD i 0=ks[i]:=by rw [aq,af h]; rfl
theorem gdl {L:List ah}{i:Nat}(h:i<L.length):L.getD i dl=L[i]:=by rw [aq,af h]; rfl
theorem Dh (nd:ks.Nodup){i j:Nat}(hj:j<ks.length) (hij:i<j):ks.getD i 0≠ks.getD j 0:=by
 rw [gd hj,gd (Nat.lt_trans hij hj)];exact List.pairwise_iff_getElem.1 nd i j _ _ hij
theorem F7 {h:Nat}{f:Nat->Nat}(hf:∀i j,i<j->j<h->f i≠f j):((List.range h).map f).Nodup:=by
 rw [List.Nodup,List.pairwise_map];exact List.pairwise_lt_range.imp_of_mem fun _ hb hlt=>hf _ _ hlt (List.mem_range.1 hb)
def kfu (ks:List Nat) (N F T m i:Nat):Nat:=if i<F\/T<=i then ks.getD i 0 else if i+m<T then ks.getD (i+m) 0 else N+(i+m-T)
def kfd (ks:List Nat) (N F T m i:Nat):Nat:=if i<F\/T<=i then ks.getD i 0 else if i<F+m then N+(i-F) else ks.getD (i-m) 0
theorem La {F T m:Nat}(N:Nat) (h1:F+m<=T) (h2:T<=ks.length):ov ks F ((ks.drop (F+m)).take (T-(F+m))++List.range' N m)=(List.range ks.length).map (kfu ks N F T m):=by
 refine bi fun i=>?_;rcases aE i ks.length with hi|hi
 ·rw [bB,dE hi,fC];have e:((ks.drop (F+m)).take (T-(F+m))++List.range' N m).length=T-F:=by simp; omega
  have et:(ks.take F).length=F:=by simp; omega
  have ex:((ks.drop (F+m)).take (T-(F+m))).length=T-(F+m):=by simp; omega
  unfold ov;rw [e,aO,fM,et];unfold kfu;by_cases c1:i<F
  ·rw [ae c1,ae (Or.inl c1),aT,ae c1,gd hi,af hi]
  ·rw [ab c1,fM,e];by_cases c2:T<=i
   ·rw [ab (by omega),ae (Or.inr c2),bO,show F+(T-F)+(i-F-(T-F))=i by omega,gd hi,af hi]
   ·rw [ae (by omega),ab (by omega),fM,ex];by_cases c3:i+m<T
    ·rw [ae (by omega),ae c3,aT,ae (by omega),bO,show F+m+(i-F)=i+m by omega,gd (by omega),af (by omega)]
    ·rw [ab (by omega),ab c3,LM (by omega),oK]
     congr 1
     omega
 ·rw [az (by rw [vT (by simp; omega)]; exact hi),az (by simpa using hi)]
theorem Ig {F T m:Nat}(N:Nat) (h1:F+m<=T) (h2:T<=ks.length):ov ks F (List.range' N m++(ks.drop F).take (T-m-F))=(List.range ks.length).map (kfd ks N F T m):=by
 refine bi fun i=>?_;rcases aE i ks.length with hi|hi
 ·rw [bB,dE hi,fC];have e:(List.range' N m++(ks.drop F).take (T-m-F)).length=T-F:=by simp; omega
  have et:(ks.take F).length=F:=by simp; omega
  have ex:(List.range' N m).length=m:=by simp
  unfold ov;rw [e,aO,fM,et];unfold kfd;by_cases c1:i<F
  ·rw [ae c1,ae (Or.inl c1),aT,ae c1,gd hi,af hi]
  ·rw [ab c1,fM,e];by_cases c2:T<=i
   ·rw [ab (by omega),ae (Or.inr c2),bO,show F+(T-F)+(i-F-(T-F))=i by omega,gd hi,af hi]
   ·rw [ae (by omega),ab (by omega),fM,ex];by_cases c3:i<F+m
    ·rw [ae (by omega),ae c3,LM (by omega),oK]
    ·rw [ab (by omega),ab c3,aT,ae (by omega),bO,show F+(i-F-m)=i-m by omega,gd (by omega),af (by omega)]
 ·rw [az (by rw [vT (by simp; omega)]; exact hi),az (by simpa using hi)]
theorem J5 (nd:ks.Nodup){N F T m:Nat}(hN:∀k∈ks,k<N) (h1:F+m<=T) (h2:T<=ks.length) (i j:Nat) (hij:i<j) (hj:j<ks.length):kfu ks N F T m i≠kfu ks N F T m j:=by
 have lt:∀i,i<ks.length->ks.getD i 0<N:=fun i hi=>by rw [gd hi]; exact hN _ (ay hi)
 have ne:∀a b,a<b->b<ks.length->ks.getD a 0≠ks.getD b 0:=fun a b hab hb=>Dh nd hb hab;have ne2:∀a b,b<a->a<ks.length->ks.getD a 0≠ks.getD b 0:=fun a b hab ha=>(Dh nd ha hab).symm;unfold kfu
 repeat' split
 all_goals first
  | exact ne _ _ (by omega) (by omega)
  | exact ne2 _ _ (by omega) (by omega)
  | (have:=lt i (by omega); omega)
  | (have:=lt j (by omega); omega)
  | (have:=lt (i+m) (by omega); omega)
  | (have:=lt (j+m) (by omega); omega)
  | omega
theorem J6 (nd:ks.Nodup){N F T m:Nat}(hN:∀k∈ks,k<N) (h1:F+m<=T) (h2:T<=ks.length) (i j:Nat) (hij:i<j) (hj:j<ks.length):kfd ks N F T m i≠kfd ks N F T m j:=by
 have lt:∀i,i<ks.length->ks.getD i 0<N:=fun i hi=>by rw [gd hi]; exact hN _ (ay hi)
 have ne:∀a b,a<b->b<ks.length->ks.getD a 0≠ks.getD b 0:=fun a b hab hb=>Dh nd hb hab;have ne2:∀a b,b<a->a<ks.length->ks.getD a 0≠ks.getD b 0:=fun a b hab ha=>(Dh nd ha hab).symm;unfold kfd
 repeat' split
 all_goals first
  | exact ne _ _ (by omega) (by omega)
  | exact ne2 _ _ (by omega) (by omega)
  | (have:=lt i (by omega); omega)
  | (have:=lt j (by omega); omega)
  | (have:=lt (i-m) (by omega); omega)
  | (have:=lt (j-m) (by omega); omega)
  | omega
theorem Ac {h:Nat}{f:Nat->Nat}{B:Nat->ah}(hf:∀i j,i<j->j<h->f i≠f j) (hB:∀i,i<h->ln s (f i)=B i){j:Nat}(hj:j<h) (hk:Rw s W (f j)) (i:Nat) (hi:i<h):
  ln (off s (f j)) (f i)=if i=j then ⟨(B j).Cells,false⟩ else B i:=by
 rw [J0 hk,hB j hj];by_cases e:i=j
 ·subst e; rw [ae rfl,ae rfl]
 ·rw [ab,ab e,hB i hi];rcases Mh e with h|h
  ·exact hf i j h hj
  ·exact (hf j i h hi).symm
theorem Bh (s:Sto) (ks:List Nat) (F:Nat):(offa s ks F).rst=s.rst:=by
 unfold offa;split <;> rfl
theorem mN {h i:Nat}{f:Nat->Nat}(hi:i<h):((List.range h).map f).getD i 0=f i:=by
 rw [gd (by simpa using hi)];simp
structure Rf (s s':Sto) (g:Nat) (ks:List Nat) (g':Nat) (ks':List Nat):Prop where
 gl:s.grid_Grid.length<=s'.grid_Grid.length
 rl:s.row_Row.length<=s'.row_Row.length
 gr:∀j,j<s.grid_Grid.length->j≠g->s'.grid_Grid[j]? = s.grid_Grid[j]?
 rw:∀j,j<s.row_Row.length->j∉ks->s'.row_Row[j]? = s.row_Row[j]?
 ng:g'=g\/s.grid_Grid.length<=g'
 nr:∀r∈ks',r∈ks\/s.row_Row.length<=r
theorem Rf.self (s:Sto) (g:Nat) (ks:List Nat):Rf s s g ks g ks:=⟨av _,av _,fun _ _ _=>rfl,fun _ _ _=>rfl,.inl rfl,fun _ h=> .inl h⟩
theorem Rf.rowoff {s':Sto}{ks':List Nat}(h:Rf s s' g ks g ks'){i:Nat}(hi:i∈ks'):Rf s (off s' i) g ks g ks':=by
 have e:(off s' i).row_Row=s'.row_Row.set i ⟨(ln s' i).Cells,false⟩:=rfl;refine ⟨h.gl,by rw [e,cq]; exact h.rl,h.gr,fun j h1 h2=>?_,h.ng,h.nr⟩;rw [e,aW ?_]
 ·exact h.rw j h1 h2
 ·rintro rfl;rcases h.nr _ hi with q|q
  ·exact h2 q
  ·omega
theorem Rf.aboff {s':Sto}{ks':List Nat}(h:Rf s s' g ks g ks') (F:Nat) (hF:F<=ks'.length):Rf s (offa s' ks' F) g ks g ks':=by
 unfold Go.Proofs.YtkgjnbiiiifoaaaGreatDoor.offa;split
 ·exact h
 ·refine h.rowoff ?_;rw [gd (by omega)];exact ay _
theorem Rf.lay (xs:List bm) (x:bV){ks':List Nat}(h:∀r∈ks',r∈ks\/s.row_Row.length<=r):Rf s ((s.addr xs).sg g x) g ks g ks':=by
 have e:((s.addr xs).sg g x).row_Row=s.row_Row++xs:=rfl;have e2:((s.addr xs).sg g x).grid_Grid=s.grid_Grid.set g x:=rfl;exact ⟨by rw [e2,cq]; exact av _,by rw [e,ax]; omega,fun j _ hj=>by rw [e2,aW (wx hj)],fun j hj _=>by rw [e,aC hj],.inl rfl,h⟩
theorem Ip {N F T m:Nat}(hm:T<=ks.length){r:Nat}(hr:r∈(List.range ks.length).map (kfu ks N F T m)):r∈ks\/N<=r:=by
 obtain ⟨i,hi,rfl⟩:=List.mem_map.1 hr;have hi:=List.mem_range.1 hi;unfold kfu;split
 ·rw [gd hi]; exact .inl (ay _)
 ·split
  ·rw [gd (by omega)]; exact .inl (ay _)
  ·exact .inr (by omega)
theorem Iq {N F T m:Nat}(hm:T<=ks.length){r:Nat}(hr:r∈(List.range ks.length).map (kfd ks N F T m)):r∈ks\/N<=r:=by
 obtain ⟨i,hi,rfl⟩:=List.mem_map.1 hr;have hi:=List.mem_range.1 hi;unfold kfd;split
 ·rw [gd hi]; exact .inl (ay _)
 ·split
  ·exact .inr (by omega)
  ·rw [gd (by omega)]; exact .inl (ay _)
theorem Ci (h:Gw s g ks W) (nd:ks.Nodup) (a b n:Int):∃s' ks',kW s (some g) a b n=some s'/\(Gw s' g ks' W/\ks'.Nodup/\ks'.length=ks.length/\
  ks'.map (ln s')=mv W (ks.map (ln s)) (cl a ks.length) (cl b ks.length) n true)/\s'.rst=s.rst/\Rf s s' g ks g ks':=by
 have hF:=oD a ks.length;have hT:=oD b ks.length;have hh:=h.h2;have hN:∀k∈ks,k<s.row_Row.length:=fun k hk=>(h.r k hk).lt;unfold kW;rw [zk h];simp only [bsm];generalize cl a ks.length=F at *;generalize cl b ks.length=T at *;unfold mv;by_cases hc:F<T/\0<n
 ·obtain ⟨m,hm⟩:∃m:Nat,min n ((T:Int)-(F:Int))=(m:Int):=⟨(min n ((T:Int)-(F:Int))).toNat,by omega⟩;have hm2:F+m<=T/\1<=m:=by omega
  rw [ae (by simp; omega),ae hc,hm,aQ (by omega),show ((F:Int)+(m:Int))=((F+m:Nat):Int) by simp,wE h hm2.1 hT];simp only [bsm];rw [tN h (by omega)];simp only [bsm];rw [fg (by simp; omega),<-bK];simp only [bsm];have h1:=h.addr (xs:=List.replicate m (bk W));have hlen:((ks.drop (F+m)).take (T-(F+m))++List.range' s.row_Row.length m).length=T-F:=by simp; omega
  obtain ⟨h3,h4⟩:=xv h1 (F:=F) (p:=(ks.drop (F+m)).take (T-(F+m))++List.range' s.row_Row.length m) (by rw [hlen]; omega) (fun k hk=>by
   rcases List.mem_append.1 hk with hk|hk
   ·exact h1.r k (kv (ku hk))
   ·rw [Cg] at hk;have:=vI (s:=s) (xs:=List.replicate m (bk W)) (i:=k-s.row_Row.length) (by simp; omega);rw [show s.row_Row.length+(k-s.row_Row.length)=k by omega,jx] at this;exact ⟨_,this,vO W,by simp [bk]⟩) ⟨(F:Int),(T:Int),(m:Int)⟩ rfl
  rw [h3];rw [La s.row_Row.length hm2.1 hT] at h4|-;have ne:=J5 nd (N:=s.row_Row.length) (F:=F) (T:=T) (m:=m) hN hm2.1 hT;have hB:∀i,i<ks.length->ln ((s.addr (List.replicate m (bk W))).sg g ⟨((List.range ks.length).map (kfu ks s.row_Row.length F T m)).map some⟩) (kfu ks s.row_Row.length F T m i)=mvb W (ks.map (ln s)) F T m true i:=by
   intro i hi;rw [Bm];have old:∀j,j<ks.length->ln (s.addr (List.replicate m (bk W))) (ks.getD j 0)=(ks.map (ln s)).getD j dl:=fun j hj=>by
    rw [gdl (by simpa using hj),gd hj,xK (hN _ (ay hj)),eo]
   unfold kfu mvb;by_cases c1:i<F\/T<=i
   ·rw [ae c1,ab (show ¬(F<=i/\i<T) by omega),old i hi]
   ·rw [ab c1,ae (show F<=i/\i<T by omega),ae rfl];by_cases c2:i+m<T
    ·rw [ae c2,ae c2,old _ (by omega)]
    ·rw [ab c2,ab c2,Gb (by simp; omega),jx];rfl
  refine ⟨_,(List.range ks.length).map (kfu ks s.row_Row.length F T m),rfl,⟨?_,F7 ne,by simp,?_⟩,Bh _ _ _,(Rf.lay _ _ fun r hr=>Ip hT hr).aboff F (by simp; omega)⟩
  ·unfold offa;split
   ·exact h4
   ·refine h4.off ?_;rw [mN (by omega)];exact h4.r _ (List.mem_map.2 ⟨F-1,List.mem_range.2 (by omega),rfl⟩)
  ·rw [dF,KC];refine dt fun i hi=>?_;have hi:=List.mem_range.1 hi;simp only [Function.comp,bS];unfold offa mvl;by_cases h0:F=0
   ·rw [ae h0,ab (by simp; omega),hB i hi]
   ·rw [ab h0,mN (by omega),Ac ne hB (by omega) (h4.r _ (List.mem_map.2 ⟨F-1,List.mem_range.2 (by omega),rfl⟩)) i hi];by_cases e:i=F-1
    ·rw [ae e,ae (by omega),e]
    ·rw [ab e,ab (by simp; omega)]
 ·rw [ab (by simp; omega),ab hc];exact ⟨s,ks,rfl,⟨h,nd,rfl,rfl⟩,rfl,Rf.self _ _ _⟩
theorem BI (h:Gw s g ks W) (nd:ks.Nodup) (a b n:Int):∃s' ks',kz s (some g) a b n=some s'/\(Gw s' g ks' W/\ks'.Nodup/\ks'.length=ks.length/\
  ks'.map (ln s')=mv W (ks.map (ln s)) (cl a ks.length) (cl b ks.length) n false)/\s'.rst=s.rst/\Rf s s' g ks g ks':=by
 have hF:=oD a ks.length;have hT:=oD b ks.length;have hh:=h.h2;have hN:∀k∈ks,k<s.row_Row.length:=fun k hk=>(h.r k hk).lt;unfold kz;rw [zk h];simp only [bsm];generalize cl a ks.length=F at *;generalize cl b ks.length=T at *;unfold mv;by_cases hc:F<T/\0<n
 ·obtain ⟨m,hm⟩:∃m:Nat,min n ((T:Int)-(F:Int))=(m:Int):=⟨(min n ((T:Int)-(F:Int))).toNat,by omega⟩;have hm2:F+m<=T/\1<=m:=by omega
  have h1:=h.addr (xs:=List.replicate m (bk W));rw [ae (by simp; omega),ae hc,hm,tN h (by omega)];simp only [bsm];rw [aQ (by omega),show ((T:Int)-(m:Int))=((T-m:Nat):Int) by omega,wE h1 (by omega) (by omega)];simp only [bsm];rw [fg (by simp; omega),<-bK];simp only [bsm];have hlen:(List.range' s.row_Row.length m++(ks.drop F).take (T-m-F)).length=T-F:=by simp; omega
  obtain ⟨h3,h4⟩:=xv h1 (F:=F) (p:=List.range' s.row_Row.length m++(ks.drop F).take (T-m-F)) (by rw [hlen]; omega) (fun k hk=>by
   rcases List.mem_append.1 hk with hk|hk
   ·rw [Cg] at hk;have:=vI (s:=s) (xs:=List.replicate m (bk W)) (i:=k-s.row_Row.length) (by simp; omega);rw [show s.row_Row.length+(k-s.row_Row.length)=k by omega,jx] at this;exact ⟨_,this,vO W,by simp [bk]⟩
   ·exact h1.r k (kv (ku hk))) ⟨(F:Int),(T:Int),(m:Int)⟩ rfl
  rw [h3];rw [Ig s.row_Row.length hm2.1 hT] at h4|-;have ne:=J6 nd (N:=s.row_Row.length) (F:=F) (T:=T) (m:=m) hN hm2.1 hT;have hB:∀i,i<ks.length->ln ((s.addr (List.replicate m (bk W))).sg g ⟨((List.range ks.length).map (kfd ks s.row_Row.length F T m)).map some⟩) (kfd ks s.row_Row.length F T m i)=mvb W (ks.map (ln s)) F T m false i:=by
   intro i hi;rw [Bm];have old:∀j,j<ks.length->ln (s.addr (List.replicate m (bk W))) (ks.getD j 0)=(ks.map (ln s)).getD j dl:=fun j hj=>by
    rw [gdl (by simpa using hj),gd hj,xK (hN _ (ay hj)),eo]
   unfold kfd mvb;by_cases c1:i<F\/T<=i
   ·rw [ae c1,ab (show ¬(F<=i/\i<T) by omega),old i hi]
   ·rw [ab c1,ae (show F<=i/\i<T by omega),ab (show ¬(false=true) by simp)];by_cases c2:i<F+m
    ·rw [ae c2,ab (show ¬(F+m<=i) by omega),Gb (by simp; omega),jx];rfl
    ·rw [ab c2,ae (show F+m<=i by omega),old _ (by omega)]
  have hmem:∀j,j<ks.length->kfd ks s.row_Row.length F T m j∈(List.range ks.length).map (kfd ks s.row_Row.length F T m):=fun j hj=>List.mem_map.2 ⟨j,List.mem_range.2 hj,rfl⟩;have h5:Gw (offa ((s.addr (List.replicate m (bk W))).sg g ⟨((List.range ks.length).map (kfd ks s.row_Row.length F T m)).map some⟩) ((List.range ks.length).map (kfd ks s.row_Row.length F T m)) F) g ((List.range ks.length).map (kfd ks s.row_Row.length F T m)) W:=by
   unfold offa;split
   ·exact h4
   ·refine h4.off ?_;rw [mN (by omega)];exact h4.r _ (hmem _ (by omega))
  have hC:∀i,i<ks.length->ln (offa ((s.addr (List.replicate m (bk W))).sg g ⟨((List.range ks.length).map (kfd ks s.row_Row.length F T m)).map some⟩) ((List.range ks.length).map (kfd ks s.row_Row.length F T m)) F) (kfd ks s.row_Row.length F T m i)=
    if i+1=F then ⟨(mvb W (ks.map (ln s)) F T m false i).Cells,false⟩ else mvb W (ks.map (ln s)) F T m false i:=by
   intro i hi;unfold offa;by_cases h0:F=0
   ·rw [ae h0,ab (by omega),hB i hi]
   ·rw [ab h0,mN (by omega),Ac ne hB (by omega) (h4.r _ (hmem _ (by omega))) i hi];by_cases e:i=F-1
    ·rw [ae e,ae (by omega),e]
    ·rw [ab e,ab (by omega)]
  have hlt:T-1<((List.range ks.length).map (kfd ks s.row_Row.length F T m)).length:=by simp; omega
  simp only [bsm];rw [aQ (by omega),show ((T:Int)-1)=((T-1:Nat):Int) by omega,fm h5 hlt];simp only [bsm];rw [BB (h5.at hlt)];simp only [bsm,eo,AN];refine ⟨_,(List.range ks.length).map (kfd ks s.row_Row.length F T m),rfl,⟨h5.off (h5.r _ (hmem _ (by omega))),F7 ne,by simp,?_⟩,Bh _ _ _,((Rf.lay _ _ fun r hr=>Iq hT hr).aboff F (by simp; omega)).rowoff (hmem _ (by omega))⟩;rw [dF,KC];refine dt fun i hi=>?_;have hi:=List.mem_range.1 hi;simp only [Function.comp,bS];rw [Ac ne hC (by omega) (h5.r _ (hmem _ (by omega))) i hi];unfold mvl;by_cases e:i=T-1
  ·rw [ae e,ab (show ¬(T-1+1=F) by omega),ae (show i+1=F\/(false=false/\i+1=T) from Or.inr ⟨rfl,by omega⟩),e]
  ·rw [ab e];by_cases e2:i+1=F
   ·rw [ae e2,ae (Or.inl e2)]
   ·rw [ab e2,ab (show ¬(i+1=F\/(false=false/\i+1=T)) by simp; omega)]
 ·rw [ab (by simp; omega),ab hc];exact ⟨s,ks,rfl,⟨h,nd,rfl,rfl⟩,rfl,Rf.self _ _ _⟩
theorem sa {L:List ah}(hl:L.length<=1024) (hW:W<=1024) (hL:∀x∈L,x.Cells.length=W) (a b n:Int) (up:Bool):
  gk L a b n up=some (mv W L (cl a L.length) (cl b L.length) n up):=by
 have hF:=oD a L.length;have hT:=oD b L.length;unfold gk;simp only [icl,bu,bsm];generalize cl a L.length=F at *;generalize cl b L.length=T at *;unfold mv;by_cases hc:F<T/\0<n
 ·obtain ⟨m,hm⟩:∃m:Nat,min n ((T:Int)-(F:Int))=(m:Int):=⟨(min n ((T:Int)-(F:Int))).toNat,by omega⟩;have hm2:F+m<=T/\1<=m:=by omega
  rw [ab (by rw [aB,am,am]; omega),ae hc,aQ (by omega),ey,hm,bS];obtain ⟨t,h1,h2⟩:=eV (σ:=(List ah)×Int) (τ:=List ah) (n:=L.length) (fuel:=((L.length:Int)-0).toNat+1) (s:=(([]:List ah),0))
   (fun i q=>q=((List.range i).map (mvl W L F T m up),(i:Int))) (fun t=>t=(List.range L.length).map (mvl W L F T m up))
   (step:=fun s_41=>
 if decide (s_41.2<(L.length:Int)) then
 (idx L s_41.2).bind fun x_48=>
 ((bw (decide (s_41.2>=(F:Int))) (some (decide (s_41.2<(T:Int))))).bind fun d_57=>
 if d_57 then
 (if (!up)=true then
 (some ((w64 (s_41.2-(m:Int)))):Option Int)
 else
 (some ((w64 (s_41.2+(m:Int)))):Option Int)).bind fun z_68=>
 (idx L s_41.2).bind fun x_79=>
 (rep (x_79.Cells.length:Int) (⟨0,([]:List Int)⟩:aa)).bind fun x_83=>
 (bw (decide (z_68>=(F:Int))) (some (decide (z_68<(T:Int))))).bind fun d_90=>
 if d_90 then
 (idx L z_68).bind fun x_98=>
 (some (x_98.Cells,x_98.Wrap):Option ((List aa)×Bool))
 else
 (some (x_83,false):Option ((List aa)×Bool))
 else
 (some (x_48.Cells,x_48.Wrap):Option ((List aa)×Bool))).bind fun z_53=>
 ((orE ((w64 (s_41.2+1))==(F:Int)) ((bw (!up) (some ((w64 (s_41.2+1))==(T:Int)))).bind fun d_111=>
 some d_111)).bind fun d_107=>
 if d_107 then
 (some false:Option Bool)
 else
 (some z_53.2:Option Bool)).bind fun z_102=>
 (app s_41.1 ([(⟨z_53.1,z_102⟩:ah)]:List ah)).bind fun x_124=>
 some (.inl (x_124,(w64 (s_41.2+1))))
 else
 some (.inr s_41.1))
   (fun i q hi e=>by
    subst e;refine .inl ⟨_,?_,rfl⟩;have e5:w64 ((i:Int)+1)=((i+1:Nat):Int):=by rw [aQ (by omega)]; simp
    have hd:decide ((i:Int)<(L.length:Int))=true:=by simp; exact hi
    have hlw:=hL _ (ay hi);simp only [hd,bA,bd hi,bsm,e5,aX];have hz:(if (decide ((i:Int)>=(F:Int)) && decide ((i:Int)<(T:Int)))=true then
      (if (!up)=true then (some ((w64 ((i:Int)-(m:Int)))):Option Int) else (some ((w64 ((i:Int)+(m:Int)))):Option Int)).bind fun z_68=>
      (rep (L[i].Cells.length:Int) (⟨0,([]:List Int)⟩:aa)).bind fun x_83=>
      if (decide (z_68>=(F:Int)) && decide (z_68<(T:Int)))=true then
      (idx L z_68).bind fun x_98=>(some (x_98.Cells,x_98.Wrap):Option ((List aa)×Bool))
      else (some (x_83,false):Option ((List aa)×Bool))
      else (some (L[i].Cells,L[i].Wrap):Option ((List aa)×Bool)))=some ((mvb W L F T m up i).Cells,(mvb W L F T m up i).Wrap):=by
     unfold mvb;by_cases c1:F<=i/\i<T
     ·rw [ae (by simp; omega),ae c1]
      cases up with
      | true=>
       rw [ab (by simp),ae rfl];simp only [bsm];rw [qD _ (by omega),aQ (by omega),show ((i:Int)+(m:Int))=((i+m:Nat):Int) by simp];simp only [bsm];by_cases c2:i+m<T
       ·rw [ae (by simp; omega),ae c2,bd (show i+m<L.length by omega),gdl (by omega)];rfl
       ·rw [ab (by simp; omega),ab c2,bS,hlw];rfl
      | false=>
       rw [ae (by simp),ab (by simp)];simp only [bsm];rw [qD _ (by omega),aQ (by omega)];simp only [bsm];by_cases c2:F+m<=i
       ·rw [show ((i:Int)-(m:Int))=((i-m:Nat):Int) by omega,ae (by simp; omega),ae c2,bd (show i-m<L.length by omega),gdl (by omega)];rfl
       ·rw [ab (by simp; omega),ab c2,bS,hlw];rfl
     ·rw [ab (by simp; omega),ab c1,gdl hi]
    rw [hz];simp only [bsm];have hy:(orE (((i+1:Nat):Int)==(F:Int)) (some (!up && (((i+1:Nat):Int)==(T:Int)))))=some (decide (i+1=F\/(up=false/\i+1=T))):=by
     rw [bu]
     congr 1
     rw [ci];simp only [aB,aS,ao,cy,am,Int.ofNat_inj]
    rw [hy];simp only [bsm];have hx:∀y:Bool,(if decide (i+1=F\/(up=false/\i+1=T))=true then (some false:Option Bool) else some y)=some (if i+1=F\/(up=false/\i+1=T) then false else y):=fun y=>by
     by_cases c:i+1=F\/(up=false/\i+1=T)
     ·rw [ae (by simpa using c),ae c]
     ·rw [ab (by simpa using c),ab c]
    rw [hx];simp only [bsm];rw [fg (by simp; omega)];simp only [bsm];have hz3:(⟨(mvb W L F T m up i).Cells,if i+1=F\/(up=false/\i+1=T) then false else (mvb W L F T m up i).Wrap⟩:ah)=mvl W L F T m up i:=by
     unfold mvl;split <;> rfl
    rw [hz3,lY,bK];rfl)
   (fun q e=>⟨_,by subst e; simp,rfl⟩)
   (by simp) (by omega)
  subst h2;rw [h1];rfl
 ·rw [ae (by rw [aB,am,am]; omega),ab hc]
end Go.Proofs.YtkgjnbiiiifoaaaGreatDoor
namespace Go.Proofs.YtkgjnbiiiifoaaaGreatDoor
open Go Go.Lt
variable {s:Sto}{k:Nat}{l p:List aa}{w:Bool}
theorem A4 (p:List Int) (hp:p.length<=1000000):jM p=some (p.map gF):=by
 unfold jM;rw [qD _ (by omega),qD _ (by omega)];simp only [bsm];obtain ⟨t,h1,h2⟩:=eV (σ:=(List Int)×Int) (τ:=List Int) (n:=p.length) (fuel:=((p.length:Int)-0).toNat+1) (s:=(List.replicate (0:Int).toNat 0,0))
  (fun i q=>q=((p.take i).map gF,(i:Int))) (fun t=>t=p.map gF)
  (step:=fun s_12=>
 if decide (s_12.2<(p.length:Int)) then
 (idx p s_12.2).bind fun x_15=>
 ((dU x_15).bind fun x_21=>
 if (!x_21)=true then
 (some 65533:Option Int)
 else
 (some x_15:Option Int)).bind fun z_19=>
 (app s_12.1 ([z_19]:List Int)).bind fun x_29=>
 some (.inl (x_29,(w64 (s_12.2+1))))
 else
 some (.inr s_12.1))
  (fun i q hi e=>by
   subst e;refine .inl ⟨_,?_,rfl⟩;have e5:w64 ((i:Int)+1)=((i+1:Nat):Int):=by rw [aQ (by omega)]; simp
   have hd:decide ((i:Int)<(p.length:Int))=true:=by simp; exact hi
   simp only [hd,bA,bd hi,bsm,pX,e5];have hz:(if (!vld p[i])=true then (some 65533:Option Int) else some p[i])=some (gF p[i]):=by
    unfold gF
    cases vld p[i] <;> rfl
   rw [hz];simp only [bsm];rw [fg (by simp; omega)];simp only [bsm];rw [ak hi,bK];rfl)
  (fun q e=>⟨_,by subst e; simp,rfl⟩)
  rfl (by omega)
 subst h2;rw [h1];rfl
theorem DC (wide:Int) (t:List Int) (ht:t.length<=9223372036854775807):qm wide t=some (dD wide (fx t)):=by
 unfold qm;have hz:(if decide (wide>=2) then (app ([(⟨0,([]:List Int)⟩:aa)]:List aa) ([(⟨0,([]:List Int)⟩:aa)]:List aa)).bind fun x_14=>(some x_14:Option ((List aa))) else
   (some (([(⟨0,([]:List Int)⟩:aa)]:List aa)):Option ((List aa))))=some (if 2<=wide then [bl,bl] else [bl]):=by
  by_cases h:2<=wide
  ·rw [ae (by simpa using h),ae h,fg (by simp)];rfl
  ·rw [ab (by simpa using h),ab h];rfl
 rw [hz];simp only [bsm];unfold dD;by_cases h0:t= []
 ·subst h0;rw [ae (show ((([]:List Int).length:Int)==0)=true from rfl),ae (show fx []= [] from rfl)];by_cases h:2<=wide
  ·rw [ae h,ae (show wide>1 by omega)]
  ·rw [ab h,ab (show ¬(wide>1) by omega)]
 ·have hl:0<t.length:=List.length_pos_iff.2 h0;have hf:fx t≠ []:=by
   have:=Dp t;intro h;rw [h,bf] at this;omega
  rw [ab (by rw [aS]; omega),ab hf,ey,show (min (t.length:Int) 16)=((min t.length 16:Nat):Int) by omega,show (0:Int)=((0:Nat):Int) from rfl,ui (dk _) (Nat.min_le_left _ _)];simp only [bsm];rw [A4 _ (by simp; omega)];have ef:((t.drop 0).take (min t.length 16-0)).map gF=fx t:=by
   unfold fx;rw [ph,Cf]
   congr 1
   rcases Nat.le_total t.length 16 with h|h
   ·rw [cV h,aG (av _),aG h]
   ·rw [Nat.min_eq_right h]
  rw [ef];by_cases h:2<=wide
  ·rw [ae h,ae (show wide>1 by omega),show decide (wide>=2)=true by simpa using h];rfl
  ·rw [ab h,ab (show ¬(wide>1) by omega),show decide (wide>=2)=false by simpa using h];rfl
theorem DI (wide:Int) (t:List Int):1<=(dD wide t).length/\(dD wide t).length<=2:=by
 unfold dD
 repeat' split
 all_goals simp
theorem Cm (wide:Int) (t:List Int):Snd (dD wide (fx t)):=DM wide (Kf t) (Kg t)
theorem Ll {t:List Int}(h:∀x∈t,vld x=true) (hl:t.length<=16):fx t=t:=by
 unfold fx;rw [aG hl]
 conv=>rhs; rw [<-List.map_id t]
 refine dt fun x hx=>?_;unfold gF;rw [ae (h x hx)];rfl
theorem F9 (h:s.row_Row[k]? = some ⟨l,w⟩) (hs:Snd l) (hl:l.length<=1024){a:Nat}(wide:Int){t:List Int}(ht:t.length<=9223372036854775807) (ha:a+(dD wide (fx t)).length<=l.length):
  mn s (some k) a wide t=some (s.sr k ⟨pl l a (dD wide (fx t)),pw l w a (dD wide (fx t)).length⟩,Er.nil):=by
 unfold mn;rw [DC wide t ht];simp only [bsm];rw [pZ h hs hl (Cm wide t) (DI wide _).1 ha];rfl
def mat (l:List aa) (i:Int):Option Nat:=if 0<=i/\i<l.length then (if kd l i.toNat=0 then none else if kd l i.toNat=3 then some (i.toNat-1) else some i.toNat) else none
theorem zV (h:s.row_Row[k]? = some ⟨l,w⟩){i:Int}(hi:¬(0<=i/\i<l.length)):gg s (some k) i=some (bl,false):=by
 unfold gg;rw [jF h];simp only [bsm,bu];rw [ae (by simp; omega)];rfl
theorem J7 (hs:Snd l) (j:Nat):kd l j=0\/kd l j=1\/kd l j=2\/kd l j=3:=by
 rcases aE j l.length with h|h
 ·have:=(hs j h).1;unfold rgt at this;rw [jy h];split at this
  ·omega
  ·simp only [ao,aB,am] at this;omega
 ·exact .inl (lJ h)
theorem Il (h:s.row_Row[k]? = some ⟨l,w⟩) (hs:Snd l) (i:Int) (hi: -9223372036854775808<=i/\i<=9223372036854775807):
  qg s (some k) i=some (match mat l i with|some j=>((j:Int),⟨kd l j,(l.getD j bl).Text⟩,true)|none=>(0,⟨0,[]⟩,false)):=by
 unfold qg mat;by_cases hin:0<=i/\i<l.length
 ·obtain ⟨j,rfl⟩:∃j:Nat,i=(j:Int):=⟨i.toNat,by omega⟩;have hj:j<l.length:=by omega
  rw [ae hin,Ba h hj hs.sht,bS];have hkd:=jy hj;have hgd:l.getD j bl=l[j]:=by rw [aq,af hj]; rfl
  simp only [bsm,jf];by_cases h3:kd l j=3
  ·obtain ⟨p1,p2⟩:=hs.three h3;have hj2:j-1<l.length:=by omega
   have hkd2:=jy hj2;rw [ae (by rw [aS,<-hkd]; exact h3),aQ (by omega),show ((j:Int)-1)=((j-1:Nat):Int) by omega,Ba h hj2 hs.sht];simp only [bsm,jf];rw [ab (show ¬kd l j=0 by omega),ae h3,ab (by rw [aS,<-hkd2]; omega),ae (by rw [aS,<-hkd2]; exact p2)];simp only;rw [p2,aq,af hj2];rfl
  ·rw [ab (by rw [aS,<-hkd]; exact h3)];simp only [bsm,jf];rcases J7 hs j with h0|h1|h2|h4
   ·rw [ab (by rw [aS,<-hkd]; omega),ab (by rw [aS,<-hkd]; omega),ae h0]
   ·rw [ae (by rw [aS,<-hkd]; exact h1),ab (by omega),ab h3];simp only;rw [h1,hgd]
   ·rw [ab (by rw [aS,<-hkd]; omega),ae (by rw [aS,<-hkd]; exact h2),ab (by omega),ab h3];simp only;rw [h2,hgd]
   ·exact absurd h4 h3
 ·rw [ab hin,zV h hin];rfl
theorem FX {a j:Nat}(h:a<=j/\j<a+p.length):pc l a p j=p.getD (j-a) bl:=by unfold pc; rw [ae h]
theorem JP {a j:Nat}(h:¬(a<=j/\j<a+p.length)):pc l a p j=if tch l a p.length j=true then bl else l.getD j bl:=by unfold pc; rw [ab h]
end Go.Proofs.YtkgjnbiiiifoaaaGreatDoor
namespace Go.Proofs.YtkgjnbiiiifoaaaGreatDoor
open Go Go.Lt
variable {s C:Sto}{g k W:Nat}{ks:List Nat}{l p:List aa}{w:Bool}{q:ag}
def Sto.sp (s:Sto) (k:Nat) (x:bq):Sto:={ s with place_Pen:=s.place_Pen.set k x}
theorem jh {x:bq}(h:k<s.place_Pen.length):s.set_place_Pen k x=some (s.sp k x):=by
 simp only [Sto.set_place_Pen,h,bA];rfl
theorem zM {x:bq}(h:k<s.place_Pen.length):(s.sp k x).place_Pen[k]? = some x:=by simp [Sto.sp,h]
theorem zg (s:Sto) (k:Nat) (x y:bq):(s.sp k x).sp k y=s.sp k y:=by simp [Sto.sp]
theorem Gw.sp (h:Gw s g ks W) (k:Nat) (x:bq):Gw (s.sp k x) g ks W:=⟨h.g,h.r,h.h1,h.h2,h.w1,h.w2⟩
def ownG (C:Sto) (k g:Nat):Prop:=∃x,C.place_Pen[k]? = some x/\x.G=some g
def ownR (C:Sto) (k r:Nat):Prop:=∃g y,ownG C k g/\C.grid_Grid[g]? = some y/\some r∈y.rows
structure Fr (C s:Sto) (k g:Nat) (ks:List Nat):Prop where
 pl:C.place_Pen.length<=s.place_Pen.length
 gl:C.grid_Grid.length<=s.grid_Grid.length
 rl:C.row_Row.length<=s.row_Row.length
 pn:∀j,j<C.place_Pen.length->j≠k->s.place_Pen[j]? = C.place_Pen[j]?
 gr:∀j,j<C.grid_Grid.length->¬ownG C k j->s.grid_Grid[j]? = C.grid_Grid[j]?
 rw:∀j,j<C.row_Row.length->¬ownR C k j->s.row_Row[j]? = C.row_Row[j]?
 ng:ownG C k g\/C.grid_Grid.length<=g
 nr:∀r∈ks,ownR C k r\/C.row_Row.length<=r
theorem Fr.self {p:bq}(h:s.place_Pen[k]? = some p) (hg:p.G=some g) (hk:s.grid_Grid[g]? = some ⟨ks.map some⟩):Fr s s k g ks:=
 ⟨av _,av _,av _,fun _ _ _=>rfl,fun _ _ _=>rfl,fun _ _ _=>rfl,.inl ⟨p,h,hg⟩,fun r hr=> .inl ⟨g,_,⟨p,h,hg⟩,hk,List.mem_map.2 ⟨r,hr,rfl⟩⟩⟩
theorem Fr.new (h1:C.place_Pen.length<=s.place_Pen.length) (h2:C.grid_Grid.length<=s.grid_Grid.length) (h3:C.row_Row.length<=s.row_Row.length) (h4:∀j,j<C.place_Pen.length->s.place_Pen[j]? = C.place_Pen[j]?)
  (h5:∀j,j<C.grid_Grid.length->s.grid_Grid[j]? = C.grid_Grid[j]?) (h6:∀j,j<C.row_Row.length->s.row_Row[j]? = C.row_Row[j]?) (h7:C.grid_Grid.length<=g) (h8:∀r∈ks,C.row_Row.length<=r):Fr C s k g ks:=
 ⟨h1,h2,h3,fun j a _=>h4 j a,fun j a _=>h5 j a,fun j a _=>h6 j a,.inr h7,fun r hr=> .inr (h8 r hr)⟩
theorem Fr.step {s':Sto}{g':Nat}{ks':List Nat}(h:Fr C s k g ks) (f:Rf s s' g ks g' ks') (hp:s'.place_Pen=s.place_Pen):Fr C s' k g' ks':=by
 refine ⟨by rw [hp]; exact h.pl,cO h.gl f.gl,cO h.rl f.rl,fun j a b=>by rw [hp]; exact h.pn j a b,fun j a b=>?_,fun j a b=>?_,?_,fun r hr=>?_⟩
 ·have:=h.gl;rw [f.gr j (by omega) ?_,h.gr j a b];rintro rfl;rcases h.ng with q|q
  ·exact b q
  ·omega
 ·have:=h.rl;rw [f.rw j (by omega) ?_,h.rw j a b];intro hj;rcases h.nr j hj with q|q
  ·exact b q
  ·omega
 ·rcases f.ng with rfl|q
  ·exact h.ng
  ·exact .inr (cO h.gl q)
 ·rcases f.nr r hr with q|q
  ·exact h.nr r q
  ·exact .inr (cO h.rl q)
theorem Fr.sp (h:Fr C s k g ks) (x:bq):Fr C (s.sp k x) k g ks:=
 ⟨by simp only [Sto.sp,cq]; exact h.pl,h.gl,h.rl,fun j a b=>by simp only [Sto.sp]; rw [aW (wx b)]; exact h.pn j a b,h.gr,h.rw,h.ng,h.nr⟩
theorem Fr.sr (h:Fr C s k g ks){i:Nat}(hi:i∈ks) (r:bm):Fr C (s.sr i r) k g ks:=by
 refine h.step (s':=s.sr i r) ⟨av _,by simp [Sto.sr],fun _ _ _=>rfl,fun j _ b=>?_,.inl rfl,fun r hr=> .inl hr⟩ rfl;exact AY (fun e=>b (e▸ hi))
theorem Fr.addp (h:Fr C s k g ks) (x:bq):Fr C (s.add_place_Pen x) k g ks:=
 ⟨by have:=h.pl; simp only [Sto.add_place_Pen,ax]; omega,h.gl,h.rl,fun j a b=>by have:=h.pl; simp only [Sto.add_place_Pen]; rw [aC (by omega)]; exact h.pn j a b,h.gr,h.rw,h.ng,h.nr⟩
structure Rgp (s s':Sto):Prop where
 r:s'.row_Row=s.row_Row
 g:s'.grid_Grid=s.grid_Grid
 p:s'.place_Pen=s.place_Pen
theorem Rgp.self (s:Sto):Rgp s s:=⟨rfl,rfl,rfl⟩
theorem Rgp.symm {s s':Sto}(h:Rgp s s'):Rgp s' s:=⟨h.r.symm,h.g.symm,h.p.symm⟩
theorem Rgp.ownG {s s':Sto}(h:Rgp s s') (k g:Nat):ownG s' k g↔ownG s k g:=by unfold Go.Proofs.YtkgjnbiiiifoaaaGreatDoor.ownG; rw [h.p]
theorem Rgp.ownR {s s':Sto}(h:Rgp s s') (k r:Nat):ownR s' k r↔ownR s k r:=by unfold Go.Proofs.YtkgjnbiiiifoaaaGreatDoor.ownR; rw [h.g]; simp only [h.ownG]
theorem Fr.rgp {C' s':Sto}(h:Fr C s k g ks) (hC:Rgp C C') (hs:Rgp s s'):Fr C' s' k g ks:=by
 refine ⟨by rw [hC.p,hs.p]; exact h.pl,by rw [hC.g,hs.g]; exact h.gl,by rw [hC.r,hs.r]; exact h.rl,?_,?_,?_,?_,?_⟩
 ·rw [hC.p,hs.p]; exact h.pn
 ·rw [hC.g,hs.g]; simp only [hC.ownG]; exact h.gr
 ·rw [hC.r,hs.r]; simp only [hC.ownR]; exact h.rw
 ·rw [hC.g,hC.ownG]; exact h.ng
 ·rw [hC.r]; simp only [hC.ownR]; exact h.nr
theorem Fr.trans {B:Sto}{g0:Nat}{ks0:List Nat}(h:Fr B C k g0 ks0) (hg:∀j,ownG C k j->j=g0) (hr:∀j,ownR C k j->j∈ks0) (h':Fr C s k g ks):Fr B s k g ks:=by
 have hl:=h.gl;have hl2:=h.rl;have hl3:=h.pl;refine ⟨cO h.pl h'.pl,cO h.gl h'.gl,cO h.rl h'.rl,fun j a b=>?_,fun j a b=>?_,fun j a b=>?_,?_,fun r hr'=>?_⟩
 ·rw [h'.pn j (by omega) b,h.pn j a b]
 ·rw [h'.gr j (by omega) ?_,h.gr j a b];intro q;obtain rfl:=hg j q;rcases h.ng with q|q
  ·exact b q
  ·omega
 ·rw [h'.rw j (by omega) ?_,h.rw j a b];intro q;rcases h.nr j (hr j q) with q|q
  ·exact b q
  ·omega
 ·rcases h'.ng with q|q
  ·obtain rfl:=hg g q; exact h.ng
  ·exact .inr (by omega)
 ·rcases h'.nr r hr' with q|q
  ·exact h.nr r (hr r q)
  ·exact .inr (by omega)
structure Pv (C s:Sto) (k g_ W:Nat) (q:ag) (ks:List Nat):Prop where
 p:s.place_Pen[k]? = some ⟨some g_,q.At,q.Auto⟩
 g:Gw s g_ ks W
 nd:ks.Nodup
 l:ks.map (ln s)=q.L
 o:s.oth=C.oth
 f:Fr C s k g_ ks
theorem Pv.self (h:Pv C s k g W q ks):Pv s s k g W q ks:=⟨h.p,h.g,h.nd,h.l,rfl,Fr.self h.p rfl h.g.g⟩
theorem Pv.oG (h:Pv C s k g W q ks) (j:Nat) (hj:ownG s k j):j=g:=by
 obtain ⟨x,h1,h2⟩:=hj;rw [h.p] at h1;cases h1;exact (aL h2).symm
theorem Pv.oR (h:Pv C s k g W q ks) (j:Nat) (hj:ownR s k j):j∈ks:=by
 obtain ⟨g',y,h1,h2,h3⟩:=hj;obtain rfl:=h.oG g' h1;rw [h.g.g] at h2;cases h2;obtain ⟨r,h4,h5⟩:=List.mem_map.1 h3;cases h5;exact h4
theorem Pv.len (h:Pv C s k g W q ks):q.L.length=ks.length:=by rw [<-h.l,dF]
theorem Pv.ok (h:Pv C s k g W q ks):∀x∈q.L,Okl W x:=by rw [<-h.l]; exact yK h.g
theorem Pv.at (h:Pv C s k g W q ks){i:Nat}(hi:i<ks.length):q.L[i]'(by rw [h.len]; exact hi)=ln s ks[i]:=by
 have:=h.l;have e:q.L[i]? = (ks.map (ln s))[i]? :=by rw [this]
 rw [af (by rw [h.len]; exact hi),bB,af hi] at e;exact aL e
theorem Pv.set (h:Pv C s k g W q ks) (c:ai) (a:Bool):Pv C (s.sp k ⟨some g,c,a⟩) k g W ⟨q.L,c,a⟩ ks:=
 ⟨zM (cR h.p),h.g.sp _ _,h.nd,h.l,h.o,h.f.sp _⟩
theorem Pv.row (h:Pv C s k g W q ks){i:Nat}(hi:i<ks.length){r:bm}(hr:Snd r.cells) (hl:r.cells.length=W):Pv C (s.sr ks[i] r) k g W ⟨q.L.set i ⟨r.cells,r.wrap⟩,q.At,q.Auto⟩ ks:=by
 have hlt:=(h.g.at hi).lt;refine ⟨h.p,⟨h.g.g,fun j hj=>?_,h.g.h1,h.g.h2,h.g.w1,h.g.w2⟩,h.nd,?_,h.o,h.f.sr (ay hi) _⟩
 ·by_cases e:ks[i]=j
  ·subst e; exact ⟨r,uh hlt,hr,hl⟩
  ·obtain ⟨r0,h1,h2⟩:=h.g.r j hj;exact ⟨r0,(AY e).trans h1,h2⟩
 ·refine bi fun j=>?_;rw [bB,mG];rcases aE j ks.length with hj|hj
  ·rw [af hj,fC];by_cases e:i=j
   ·subst e;rw [ae rfl,ae (by rw [h.len]; exact hi),oP (uh hlt)]
   ·have hne:ks[i]≠ks[j]:=by
     rcases Mh e with h1|h1
     ·exact List.pairwise_iff_getElem.1 h.nd i j _ _ h1
     ·exact (List.pairwise_iff_getElem.1 h.nd j i _ _ h1).symm
    rw [ab e,af (by rw [h.len]; exact hj),h.at hj];unfold ln;rw [AY hne]
  ·rw [az hj,ab (by omega),az (by rw [h.len]; exact hj)];rfl
def hc (c:ai) (W h:Nat):ai:=⟨max 0 (min c.Row ((h:Int)-1)),max 0 (min c.Col ((W:Int)-1)),c.Pending && (c.Col==(W:Int)-1)⟩
theorem vp {n:Nat}(h1:1<=n) (h2:n<=1024):fh n=some (n:Int):=by
 unfold fh;rw [iC,ey]
 congr 1
 omega
theorem xC {n:Nat}(h1:1<=n) (h2:n<=1024):bh n=some (n:Int):=by
 unfold bh;rw [ab (by simp; omega),ab (by simp; omega)]
theorem qo (c:ai){W h:Nat}(w1:1<=W) (w2:W<=1024) (h1:1<=h) (h2:h<=1024):ej c W h=some (hc c W h):=by
 unfold ej jt;rw [vp w1 w2,vp h1 h2];simp only [bsm,aX];rw [aQ (by omega),aQ (by omega),iC,ey,iC,ey];rfl
theorem xB (n:Int){m:Nat}(h1:1<=m) (h2:m<=1024):gL n m=some (max 0 (min n ((m:Int)-1))):=by
 unfold gL;rw [aQ (by omega)];by_cases a:n<0
 ·rw [ae (by simpa using a)]
  congr 1
  omega
 ·rw [ab (by simpa using a)];by_cases b:(m:Int)<=n
  ·rw [ae (by simpa using b)]
   congr 1
   omega
  ·rw [ab (by simpa using b)]
   congr 1
   omega
theorem uT (c:ai){W h:Nat}(w1:1<=W) (w2:W<=1024) (h1:1<=h) (h2:h<=1024):go c W h=some (hc c W h):=by
 unfold go;rw [xC h1 h2,xC w1 w2];simp only [bsm,aX];rw [xB _ h1 h2,xB _ w1 w2,aQ (by omega)];rfl
structure Hd (c:ai) (W h:Nat):Prop where
 rr:0<=c.Row/\c.Row<(h:Int)
 cc:0<=c.Col/\c.Col<(W:Int)
 pp:c.Pending=true->c.Col=(W:Int)-1
theorem vf (c:ai){W h:Nat}(w1:1<=W) (h1:1<=h):Hd (hc c W h) W h:=by
 refine ⟨by simp only [hc]; omega,by simp only [hc]; omega,fun hp=>?_⟩;simp only [hc,ao,aS] at hp|-;omega
theorem Ji {c:ai}{W h:Nat}(hd:Hd c W h):hc c W h=c:=by
 obtain ⟨h1,h2,h3⟩:=hd;obtain ⟨a,b,d⟩:=c;simp only at h1 h2 h3;unfold hc;simp only [ai.mk.injEq];refine ⟨by omega,by omega,?_⟩
 cases d with
 | false=>rfl
 | true=>rw [h3 rfl]; simp
theorem zq (h:Pv C s k g W q ks):gA s (some k)=some (s.sp k ⟨some g,hc q.At W ks.length,q.Auto⟩,true):=by
 unfold gA;simp only [bJ,dR,bsm,h.p,aj,aU];rw [jI h.g,eW h.g];simp only [bsm];rw [qo _ h.g.w1 h.g.w2 h.g.h1 h.g.h2];simp only [bsm];rw [jh (cR h.p)];rfl
theorem uR (h:Pv C s k g W q ks):dp q=some (W:Int):=by
 have hl:=h.len;have h1:=h.g.h1;have h0:idx q.L (0:Int)=some (q.L[0]'(by omega)):=bd (i:=0) (by omega);unfold dp;rw [h0];simp only [bsm];rw [(h.ok _ (ay _)).2]
theorem qb (h:Pv C s k g W q ks):bY q=some ⟨q.L,hc q.At W ks.length,q.Auto⟩:=by
 unfold bY;rw [uR h];simp only [bsm];rw [h.len,uT _ h.g.w1 h.g.w2 h.g.h1 h.g.h2];rfl
theorem xH (h:Pv C s k g W q ks):∃s' q' ks',fA s (some k)=some s'/\eZ q=some q'/\Pv C s' k g W q' ks'/\ks'.length=ks.length/\
  Hd q'.At W ks.length/\q'.At.Pending=false/\q'.At.Col=(hc q.At W ks.length).Col/\q'.Auto=q.Auto:=by
 have h1:=h.set (hc q.At W ks.length) q.Auto;have hd:=vf q.At h.g.w1 h.g.h1;have hh:=h.g.h2;unfold fA eZ;rw [zq h,qb h];generalize hc q.At W ks.length=c at *;simp only [bsm,cP,aj,aU];rw [h1.p];simp only [bsm];rw [eW h1.g];simp only [bsm];unfold nT;rw [vp h.g.h1 h.g.h2];simp only [bsm];rw [aQ (by omega),aQ (by have:=hd.rr; omega),h.len];have hr:=hd.rr;by_cases he:(ks.length:Int)-1<=c.Row
 ·rw [ae (by simpa using he),ab (by simp; omega)];have h2:=h1.set ⟨c.Row,c.Col,false⟩ q.Auto;rw [zg] at h2;simp only [bsm];rw [jh (by rw [show (s.sp k ⟨some g,c,q.Auto⟩).place_Pen.length=s.place_Pen.length by simp [Sto.sp]]; exact cR h.p),zg];simp only [bsm,bA];rw [eW h2.g];simp only [bsm];obtain ⟨s',ks',u1,⟨u2,u3,u4,u5⟩,u6,u7⟩:=Ci h2.g h2.nd 0 (ks.length:Int) 1;have hm:=sa (W:=W) (L:=q.L) (by rw [h.len]; exact hh) h.g.w2 (fun x hx=>(h.ok x hx).2) 0 (ks.length:Int) 1 true;rw [h.len] at hm;rw [u1,hm];refine ⟨s',_,ks',rfl,rfl,⟨?_,u2,u3,?_,(tj u6).trans h2.o,h2.f.step u7 (lB u6)⟩,u4,⟨hr,hd.cc,fun e=>by cases e⟩,rfl,rfl,rfl⟩
  ·rw [lB u6]; exact h2.p
  ·rw [u5,h2.l]
 ·rw [ab (by simpa using he),ae (by simp; omega)];have h2:=h1.set ⟨c.Row+1,c.Col,false⟩ q.Auto;rw [zg] at h2;simp only [bsm];rw [jh (by rw [show (s.sp k ⟨some g,c,q.Auto⟩).place_Pen.length=s.place_Pen.length by simp [Sto.sp]]; exact cR h.p),zg];simp only [bsm,aj,aU];exact ⟨_,_,ks,rfl,rfl,h2,rfl,⟨by simp only; omega,hd.cc,fun e=>by cases e⟩,rfl,rfl,rfl⟩
theorem uQ (h:Pv C s k g W q ks){i:Nat}(hi:i<ks.length) (x:ah):cu q i x=some ⟨q.L.set i x,q.At,q.Auto⟩:=by
 have hl:=h.len;have hh:=h.g.h2;unfold cu;rw [fg (by simp; omega),bW];simp only [bsm];rw [bd (show i<q.L.length by omega),kR (show i<q.L.length by omega)];rfl
theorem Do (h:Pv C s k g W q ks) (hd:0<=q.At.Row/\q.At.Row<(ks.length:Int)):∃s' q' ks',fO s (some k)=some s'/\dq q=some q'/\Pv C s' k g W q' ks'/\ks'.length=ks.length/\
  Hd q'.At W ks.length/\q'.At.Pending=false/\q'.At.Col=0/\q'.Auto=q.Auto:=by
 obtain ⟨i,hi⟩:∃i:Nat,q.At.Row=(i:Int):=⟨q.At.Row.toNat,by omega⟩;have hik:i<ks.length:=by omega
 have hl:=h.len;obtain ⟨r,r1,r2,r3⟩:=h.g.at hik;have hrow:=h.row hik (r:=⟨r.cells,true⟩) r2 r3;have h2:=hrow.set ⟨q.At.Row,0,false⟩ q.Auto;have w1:=h.g.w1;unfold fO dq;simp only [bsm,h.p,hi];rw [fm h.g hik];simp only [bsm];rw [xz (l:=r.cells) (w:=r.wrap) r1];simp only [bsm];rw [hrow.p];simp only [bsm,dG];rw [jh (cR hrow.p)];simp only [bsm];rw [bd (show i<q.L.length by omega),h.at hik,oP r1];simp only [bsm];rw [uQ h hik];simp only [bsm,hi];obtain ⟨s',q',ks',n1,n2,n3,n4,n5,n6,n7,n8⟩:=xH h2;rw [hi] at n1 n2;rw [n1,n2];refine ⟨s',q',ks',rfl,rfl,n3,n4,n5,n6,?_,n8⟩;rw [n7];simp only [hc];omega
theorem Bg (h:Pv C s k g W q ks){i a:Nat}(hi:i<ks.length) (hp:Snd p) (hn:1<=p.length) (ha:a+p.length<=W):∃s' q',ei s (some ks[i]) a p=some (s',Er.nil)/\bT q i a p=some q'/\
  Pv C s' k g W q' ks/\q'.At=q.At/\q'.Auto=q.Auto/\q'.L=q.L.set i ⟨pl (ln s ks[i]).Cells a p,pw (ln s ks[i]).Cells (ln s ks[i]).Wrap a p.length⟩:=by
 obtain ⟨r,r1,r2,r3⟩:=h.g.at hi;have w2:=h.g.w2;have hl:=h.len;have hrow:=h.row hi (r:=⟨pl r.cells a p,pw r.cells r.wrap a p.length⟩) (r2.paint hp (by rw [r3]; exact ha)) (by rw [jq]; exact r3);refine ⟨_,_,pZ (l:=r.cells) (w:=r.wrap) r1 r2 (by omega) hp hn (by omega),?_,hrow,rfl,rfl,by rw [oP r1]⟩;unfold bT;rw [bd (show i<q.L.length by omega),h.at hi,oP r1];simp only [bsm];rw [tn _ _ _ _ (by omega) (by omega) (by omega)];simp only [bsm];rw [uQ h hi];rfl
end Go.Proofs.YtkgjnbiiiifoaaaGreatDoor
namespace Go.Proofs.YtkgjnbiiiifoaaaGreatDoor
open Go Go.Lt
def ca (c:ai) (d W:Nat) (au:Bool):ai:=if c.Col<(W:Int)-d then ⟨c.Row,c.Col+d,false⟩ else ⟨c.Row,(W:Int)-1,au⟩
theorem EN (c:ai){d W:Nat}(hd:d=1\/d=2) (w1:1<=W) (w2:W<=1024) (hc:0<=c.Col/\c.Col<(W:Int)) (au:Bool):lf c d W au=some (ca c d W au):=by
 unfold lf ca;rw [vp w1 w2];simp only [bsm,iC,ey];rw [show max (1:Int) (min (d:Int) 2)=(d:Int) by omega,aQ (by omega),aQ (by omega),aQ (by omega)];by_cases h:c.Col<(W:Int)-d
 ·rw [ae (by simpa using h),ae h]
 ·rw [ab (by simpa using h),ab h]
theorem vS (c:ai){d W:Nat}(hd:d=1\/d=2) (w1:1<=W) (w2:W<=1024) (hc:0<=c.Col/\c.Col<(W:Int)) (au:Bool):kK c d W au=some (ca c d W au):=by
 unfold kK ca;have hz:(if decide ((d:Int)>1)=true then (some 2:Option Int) else some 1)=some (d:Int):=by
  rcases hd with rfl|rfl <;> rfl
 rw [hz];simp only [bsm];rw [xC w1 w2];simp only [bsm];rw [aQ (by omega),aQ (by omega),aQ (by omega)];by_cases h:c.Col<(W:Int)-d
 ·rw [ab (by simp; omega),ae h]
 ·rw [ae (by simp; omega),ab h]
variable {s C:Sto}{g k W:Nat}{ks:List Nat}{q:ag}
theorem Ly {c:ai}{d h:Nat}(hd:d=1\/d=2) (w1:1<=W) (hc:0<=c.Col/\c.Col<(W:Int)) (hr:0<=c.Row/\c.Row<(h:Int)) (au:Bool):Hd (ca c d W au) W h:=by
 unfold ca;by_cases h:c.Col<(W:Int)-d
 ·rw [ae h];exact ⟨hr,by simp only; omega,fun e=>by cases e⟩
 ·rw [ab h];exact ⟨hr,by simp only; omega,fun _=>rfl⟩
theorem oL (d:Nat) (hd:d=1\/d=2) (t:List Int):(dD (d:Int) t).length=d:=by
 unfold dD;rcases hd with rfl|rfl <;> (repeat' split) <;> first|rfl|(exfalso; omega)
def fld (q:ag):(List ah)×Int×Int×Bool×Bool:=(q.L,q.At.Row,q.At.Col,q.At.Pending,q.Auto)
def rp1 (q:ag):Option ((List ah)×Int×Int×Bool×Bool):=
 if q.At.Pending then
 (dq q).bind fun x_34=>
 (some (x_34.L,x_34.At.Row,x_34.At.Col,x_34.At.Pending,x_34.Auto):Option ((List ah)×Int×Int×Bool×Bool))
 else
 (some (q.L,q.At.Row,q.At.Col,q.At.Pending,q.Auto):Option ((List ah)×Int×Int×Bool×Bool))
def rp2 (d W:Int) (z_28:(List ah)×Int×Int×Bool×Bool):Option ((List ah)×Int×Int×Bool×Bool):=
 (bw (d==2) (some (z_28.2.2.1==(w64 (W-1))))).bind fun d_40=>
 if d_40 then
 if z_28.2.2.2.2 then
 (rep 1 (⟨0,([]:List Int)⟩:aa)).bind fun x_58=>
 (bT (⟨z_28.1,(⟨z_28.2.1,z_28.2.2.1,z_28.2.2.2.1⟩:ai),z_28.2.2.2.2⟩:ag) z_28.2.1 (w64 (W-1)) x_58).bind fun x_59=>
 (dq x_59).bind fun x_60=>
 (some (x_60.L,x_60.At.Row,x_60.At.Col,x_60.At.Pending,x_60.Auto):Option ((List ah)×Int×Int×Bool×Bool))
 else
 (some (z_28.1,z_28.2.1,(w64 (W-2)),z_28.2.2.2.1,z_28.2.2.2.2):Option ((List ah)×Int×Int×Bool×Bool))
 else
 (some (z_28.1,z_28.2.1,z_28.2.2.1,z_28.2.2.2.1,z_28.2.2.2.2):Option ((List ah)×Int×Int×Bool×Bool))
def cp1 (s:Sto) (p0:Option Nat):Option Sto:=
 (p0).bind fun k_3=>
 (s.place_Pen[k_3]?).bind fun o_6=>
 if o_6.At.Pending then
 (fO s p0).bind fun x_9=>
 (some x_9:Option Sto)
 else
 (some s:Option Sto)
theorem Jb (h:Pv C s k g W q ks) (hd:Hd q.At W ks.length):∃s' q' ks',cp1 s (some k)=some s'/\rp1 q=some (fld q')/\Pv C s' k g W q' ks'/\ks'.length=ks.length/\Hd q'.At W ks.length/\q'.Auto=q.Auto/\q'.At.Pending=false:=by
 unfold cp1 rp1;simp only [bsm,h.p]
 cases hp:q.At.Pending with
 | false=>
  simp only [aj,aU];exact ⟨s,q,ks,rfl,by unfold fld; rw [hp],h,rfl,hd,rfl,hp⟩
 | true=>
  simp only [bA];obtain ⟨s',q',ks',a1,a2,a3,a4,a5,a6,a7,a8⟩:=Do h hd.rr;rw [a1,a2];exact ⟨s',q',ks',rfl,rfl,a3,a4,a5,a8,a6⟩
theorem Dd (h:Pv C s k g W q ks) (hd:Hd q.At W ks.length){d:Nat}(hdd:d=1\/d=2) (hdw:d<=W):
  ∃s' q' ks' z,jP s (some k) d=some s'/\rp1 q=some z/\rp2 d W z=some (fld q')/\Pv C s' k g W q' ks'/\ks'.length=ks.length/\(0<=q'.At.Row/\q'.At.Row<(ks.length:Int))/\(0<=q'.At.Col/\q'.At.Col+d<=(W:Int))/\q'.Auto=q.Auto:=by
 obtain ⟨s1,q1,ks1,a1,a2,v1,n1,hd1,au1,pe1⟩:=Jb h hd;have w1:=h.g.w1;have w2:=h.g.w2;have hcc:=hd1.cc;unfold jP
 change ∃s' q' ks' z,((cp1 s (some k)).bind _)=some s'/\_
 rw [a1];simp only [bsm,v1.p];rw [jI v1.g];simp only [bsm,bu];have e1:w64 ((W:Int)-1)=((W-1:Nat):Int):=by rw [aQ (by omega)]; omega
 have e2:w64 ((W:Int)-2)=(W:Int)-2:=aQ (by omega);rw [e1];unfold rp2;by_cases hA:d=1\/q1.At.Col<(W:Int)-1
 ·rw [ae (by simp only [aB,aS,am]; omega)];refine ⟨s1,q1,ks1,_,rfl,a2,?_,v1,n1,hd1.rr,by omega,au1⟩;simp only [fld,aX,bsm,e1];rw [ab (by simp only [ao,aS]; omega)]
 ·rw [ab (by simp only [aB,aS,am]; omega)];have hd2:d=2:=by omega
  have hcol:q1.At.Col=(W:Int)-1:=by omega
  obtain ⟨i,hi⟩:∃i:Nat,q1.At.Row=(i:Int):=⟨q1.At.Row.toNat,by have:=hd1.rr; omega⟩;have hik:i<ks1.length:=by have:=hd1.rr; omega
  cases hau:q1.Auto with
  | true=>
   simp only [bA];rw [hi,fm v1.g hik];simp only [bsm];rw [show eI 1=some [bl] from wv 1];simp only [bsm];obtain ⟨s2,q2,b1,b2,v2,at2,au2,_⟩:=Bg (p:=[bl]) (a:=W-1) v1 hik (vO 1) (by decide) (by simp; omega);rw [b1];simp only [bsm];obtain ⟨s3,q3,ks3,c1,c2,v3,n3,hd3,pe3,co3,au3⟩:=Do v2 (by rw [at2,n1]; exact hd1.rr);rw [c1];refine ⟨s3,q3,ks3,_,rfl,a2,?_,v3,n3.trans n1,by rw [<-n1]; exact hd3.rr,by rw [co3]; omega,by rw [au3,au2,au1]⟩;simp only [fld,aX,bsm,e1];rw [ae (by simp only [ao,aS]; omega)];simp only [hau,bA];rw [qD _ (by decide),hi];simp only [bsm];rw [show (List.replicate (1:Int).toNat (⟨0,[]⟩:aa))= [bl] from rfl];have b2':bT ⟨q1.L,⟨(i:Int),q1.At.Col,q1.At.Pending⟩,true⟩ i ((W-1:Nat):Int) [bl]=some q2:=by rw [<-hi,<-hau]; rw [<-hi] at b2; exact b2
   rw [b2'];simp only [bsm];rw [c2];rfl
  | false=>
   simp only [aj,aU];rw [jh (cR v1.p)];simp only [bsm];have e3:w64 (q1.At.Col-1)=(W:Int)-2:=by rw [aQ (by omega)]; omega
   have v2:=v1.set ⟨q1.At.Row,(W:Int)-2,q1.At.Pending⟩ q1.Auto;rw [hau] at v2;rw [e3];refine ⟨_,_,ks1,_,rfl,a2,?_,v2,n1,hd1.rr,by simp only; omega,by simp only; rw [<-hau]; exact au1⟩;simp only [fld,aX,bsm,e1,e2];rw [ae (by simp only [ao,aS]; omega)];simp only [hau,aj,aU]
def cl2 (p1:Int) (t:List Int) (W:Nat):Nat×List Int:=if max 1 (min p1 2)>(W:Int) then (1,[65533]) else ((max 1 (min p1 2)).toNat,t)
theorem GR (p1:Int) (t:List Int) (w1:1<=W):((cl2 p1 t W).1=1\/(cl2 p1 t W).1=2)/\(cl2 p1 t W).1<=W:=by
 unfold cl2;split
 ·exact ⟨.inl rfl,w1⟩
 ·simp only;omega
theorem CL (p1:Int) (t:List Int):(if decide ((bb 1 (aR p1 2))>(W:Int)) then (some (1,([65533]:List Int)):Option (Int×(List Int))) else (some ((bb 1 (aR p1 2)),t):Option (Int×(List Int))))=some (((cl2 p1 t W).1:Int),(cl2 p1 t W).2):=by
 rw [ey,iC];unfold cl2;by_cases h:max 1 (min p1 2)>(W:Int)
 ·rw [ae (by simpa using h),ae h];rfl
 ·rw [ab (by simpa using h),ab h];simp only;rw [qY (by omega)]
theorem CB (h:Pv C s k g W q ks) (p1:Int) (t:List Int) (ht:t.length<=1000000):∃(s':Sto) (q':ag) (ks':List Nat) (i a:Nat),i<ks.length/\je s (some k) p1 t=some (s',⟨(i:Int),(a:Int),false⟩)/\aV q p1 t=some (q',⟨(i:Int),(a:Int),false⟩)/\
  Pv C s' k g W q' ks'/\ks'.length=ks.length/\Hd q'.At W ks.length/\q'.Auto=q.Auto/\a+(cl2 p1 t W).1<=W/\
  ∃l0 w0,l0.length=W/\q'.L[i]? = some ⟨pl l0 a (dD (cl2 p1 t W).1 (fx (cl2 p1 t W).2)),w0⟩:=by
 have hl:(cl2 p1 t W).2.length<=1000000:=by unfold cl2; split <;> simp; exact ht
 obtain ⟨hdd,hdw⟩:=GR p1 t h.g.w1;have hce:=CL (W:=W) p1 t;have w1:=h.g.w1;have w2:=h.g.w2;have h1:=h.set (hc q.At W ks.length) q.Auto;have hd:=vf q.At h.g.w1 h.g.h1;unfold je aV;rw [zq h,qb h];generalize hc q.At W ks.length=c at *;simp only [bsm,cP,aj,aU,h1.p];rw [jI h1.g,uR h1];simp only [bsm];rw [hce];generalize (cl2 p1 t W).2=t2 at *;generalize (cl2 p1 t W).1=d at *;simp only [bsm];obtain ⟨s2,q2,ks2,z,a1,a2,a3,v2,n2,hr,hcl,au⟩:=Dd h1 hd hdd hdw;rw [a1];obtain ⟨i,hi⟩:∃i:Nat,q2.At.Row=(i:Int):=⟨q2.At.Row.toNat,by omega⟩;obtain ⟨a,ha⟩:∃a:Nat,q2.At.Col=(a:Int):=⟨q2.At.Col.toNat,by omega⟩;have hik:i<ks2.length:=by omega
 obtain ⟨L2,⟨row2,col2,pd2⟩,ua2⟩:=q2;simp only at hi ha hr hcl au;subst hi ha;simp only [bsm,v2.p];rw [fm v2.g hik];simp only [bsm];unfold mn;rw [DC _ _ (by omega)];simp only [bsm];have hsl:=oL d hdd (fx t2);obtain ⟨s3,q3,b1,b2,v3,at3,au3,l3⟩:=Bg (p:=dD d (fx t2)) (a:=a) v2 hik (Cm _ _) (by rw [hsl]; omega) (by rw [hsl]; omega);rw [b1];simp only [bsm,v3.p];rw [jI v3.g];simp only [bsm];have hc2:0<=(⟨(i:Int),(a:Int),false⟩:ai).Col/\(⟨(i:Int),(a:Int),false⟩:ai).Col<(W:Int):=by simp only; omega
 rw [EN _ hdd w1 w2 hc2];simp only [bsm];rw [jh (cR v3.p)];simp only [bsm];have v4:=v3.set (ca ⟨(i:Int),(a:Int),false⟩ d W q3.Auto) q3.Auto
 change ∃s' q' ks' i_1 a_1,_/\_/\((rp1 ⟨q.L,c,q.Auto⟩).bind fun z_28=>(rp2 d W z_28).bind _)=_/\_
 rw [a2];simp only [bsm];rw [a3];simp only [fld,bsm];rw [Cu _ _ (by omega)];simp only [bsm];rw [b2];simp only [bsm];rw [vS _ hdd w1 w2 hc2];simp only [bsm];refine ⟨_,_,ks2,i,a,by omega,rfl,rfl,v4,n2,Ly hdd w1 hc2 (by simp only; omega) _,by simp only; rw [au3,au],by omega,(ln s2 ks2[i]).Cells,pw (ln s2 ks2[i]).Cells (ln s2 ks2[i]).Wrap a (dD d (fx t2)).length,?_,?_⟩
 ·have:=v2.ok _ (ay (show i<L2.length by have:=v2.len; simp only at this; omega));rw [v2.at hik] at this;exact this.2
 ·simp only;rw [l3,bp (by have:=v2.len; simp only at this|-; omega)]
end Go.Proofs.YtkgjnbiiiifoaaaGreatDoor
namespace Go.Proofs.YtkgjnbiiiifoaaaGreatDoor
open Go Go.Lt
variable {s:Sto}{k g W:Nat}{l p p':List aa}{w:Bool}{q:ag}{ks:List Nat}
theorem uH (l:List aa) (a n j:Nat):tch l a n j=true↔(a<=j/\j<a+n)\/(kd l j=2/\a<=j+1/\j+1<a+n)\/(kd l j=3/\a+1<=j/\j<a+n+1):=by
 simp only [tch,aB,ao,am];omega
theorem zY {c j:Nat}(h:¬(c<=j/\j<c+p.length)):pc l c p j=if (kd l j=2/\j+1=c/\0<p.length)\/(kd l j=3/\j=c+p.length/\0<p.length) then bl else l.getD j bl:=by
 rw [JP h];by_cases ht:tch l c p.length j=true
 ·rw [ae ht,ae];rw [uH] at ht;omega
 ·rw [ab ht,ab];rw [uH] at ht;omega
theorem Gn {c j:Nat}(hj:j<l.length) (h:¬(c<=j/\j<c+p.length)):kd (pl l c p) j=if (kd l j=2/\j+1=c/\0<p.length)\/(kd l j=3/\j=c+p.length/\0<p.length) then 0 else kd l j:=by
 rw [Gk hj,zY h];split
 ·rfl
 ·exact mM l j
theorem zX {a c:Nat}(h1:a<=c) (h2:c+p.length<=a+p'.length) (h3:a+p'.length<=l.length):pl (pl l c p) a p'=pl l a p':=by
 apply bi;intro j;rcases aE j l.length with hj|hj
 ·rw [se (by rw [jq]; exact hj),se hj]
  congr 1
  by_cases hi:a<=j/\j<a+p'.length
  ·rw [FX hi,FX hi]
  ·have hc:¬(c<=j/\j<c+p.length):=by omega
   have hg:(pl l c p).getD j bl=pc l c p j:=by rw [aq,se hj]; rfl
   rw [zY hi,zY hi,Gn hj hc,hg,zY hc];by_cases hA:(kd l j=2/\j+1=c/\0<p.length)\/(kd l j=3/\j=c+p.length/\0<p.length)
   ·rw [ae hA,ae hA,ab (by omega),ae (by omega)]
   ·rw [ab hA,ab hA]
 ·rw [az (by rw [jq,jq]; exact hj),az (by rw [jq]; exact hj)]
theorem De {a c:Nat}(h1:a<=c) (h2:c+p.length<=a+p'.length) (h3:a+p'.length<=l.length):pw (pl l c p) (pw l w c p.length) a p'.length=pw l w a p'.length:=by
 unfold pw;rw [jq];by_cases hl:0<l.length
 ·have e:(tch l c p.length (l.length-1) || tch (pl l c p) a p'.length (l.length-1))=tch l a p'.length (l.length-1):=by
   rw [ci,aB,uH,uH,uH];by_cases hc:c<=l.length-1/\l.length-1<c+p.length
   ·omega
   ·rw [Gn (by omega) hc];split <;> omega
  rw [show decide (0<l.length)=true by simpa using hl,dy,dy,Bool.and_assoc,<-Bool.not_or,e,dy]
 ·rw [show decide (0<l.length)=false by simpa using hl];simp
end Go.Proofs.YtkgjnbiiiifoaaaGreatDoor
namespace Go.Proofs.YtkgjnbiiiifoaaaGreatDoor
open Go Go.Lt
variable {s C:Sto}{k g W:Nat}{l p p':List aa}{w:Bool}{q:ag}{ks:List Nat}
def rdy (q:ag) (W H d:Nat):Option ((List ah)×Int×Int×Bool×Bool):=(rp1 ⟨q.L,hc q.At W H,q.Auto⟩).bind (rp2 d W)
def Ei (L:List ah) (i a d W:Nat) (au:Bool) (t:List Int):ag:=
 ⟨L.set i ⟨pl (L.getD i dl).Cells a (dD d (fx t)),pw (L.getD i dl).Cells (L.getD i dl).Wrap a d⟩,ca ⟨(i:Int),(a:Int),false⟩ d W au,au⟩
theorem uS {L:List ah}{c:ai}{au:Bool}{i a:Nat}(hi:i<L.length) (hL:L.length<=1024) (hw:(L.getD i dl).Cells.length<=1024) (hp:p.length<=1000000) (ha:a<=1000000):
  bT ⟨L,c,au⟩ i a p=some ⟨L.set i ⟨pl (L.getD i dl).Cells a p,pw (L.getD i dl).Cells (L.getD i dl).Wrap a p.length⟩,c,au⟩:=by
 unfold bT cu;simp only [gdl hi] at hw|-;simp only [bd hi,bsm];rw [tn _ _ _ _ (by omega) ha hp];simp only [bsm];rw [fg (by simp; omega),bW];simp only [bsm];rw [bd hi,kR hi];rfl
theorem kS {L2:List ah}{i a d:Nat}{pd au:Bool}(hdd:d=1\/d=2) (h:Pv C s k g W q ks) (hr:rdy q W ks.length d=some (L2,(i:Int),(a:Int),pd,au)) (hi:i<ks.length) (ha:a+d<=W) (hL:L2.length=ks.length) (hok:∀x∈L2,Okl W x) (p1:Int) (t:List Int) (ht:t.length<=1000000)
  (hcl:(cl2 p1 t W).1=d):aV q p1 t=some (Ei L2 i a d W au (cl2 p1 t W).2,⟨(i:Int),(a:Int),false⟩):=by
 have hl:(cl2 p1 t W).2.length<=1000000:=by unfold cl2; split <;> simp; exact ht
 have hce:=CL (W:=W) p1 t;have w1:=h.g.w1;have w2:=h.g.w2;have h1:=h.set (hc q.At W ks.length) q.Auto;have h2:=h.g.h2;unfold aV;rw [qb h];unfold rdy at hr;generalize hc q.At W ks.length=c at *;simp only [bsm];rw [uR h1];simp only [bsm];rw [hce,hcl];generalize (cl2 p1 t W).2=t2 at *;simp only [bsm];have hsl:=oL d hdd (fx t2);have hc2:0<=(⟨(i:Int),(a:Int),false⟩:ai).Col/\(⟨(i:Int),(a:Int),false⟩:ai).Col<(W:Int):=by simp only; omega
 obtain ⟨z,hz1,hz2⟩:=bs hr
 change ((rp1 ⟨q.L,c,q.Auto⟩).bind fun z_28=>(rp2 d W z_28).bind _)=_
 rw [hz1];simp only [bsm];rw [hz2];simp only [bsm];rw [Cu _ _ (by omega)];simp only [bsm];have hlt:i<L2.length:=by omega
 have hcells:(L2.getD i dl).Cells.length=W:=by
  rw [gdl hlt];exact (hok _ (ay hlt)).2
 rw [uS hlt (by omega) (by omega) (by omega) (by omega)];simp only [bsm];rw [vS _ hdd w1 w2 hc2];simp only [bsm,Ei,hsl]
theorem FU (h:Pv C s k g W q ks){d:Nat}(hdd:d=1\/d=2) (hdw:d<=W):∃L2 i a pd,rdy q W ks.length d=some (L2,((i:Nat):Int),((a:Nat):Int),pd,q.Auto)/\i<ks.length/\a+d<=W/\L2.length=ks.length/\(∀x∈L2,Okl W x):=by
 have h1:=h.set (hc q.At W ks.length) q.Auto;have hd:=vf q.At h.g.w1 h.g.h1;obtain ⟨s2,q2,ks2,z,_,a2,a3,v2,n2,hr,hcl,au⟩:=Dd h1 hd hdd hdw;obtain ⟨i,hi⟩:∃i:Nat,q2.At.Row=(i:Int):=⟨q2.At.Row.toNat,by omega⟩;obtain ⟨a,ha⟩:∃a:Nat,q2.At.Col=(a:Int):=⟨q2.At.Col.toNat,by omega⟩;refine ⟨q2.L,i,a,q2.At.Pending,?_,by omega,by omega,by rw [v2.len,n2],v2.ok⟩;unfold rdy;rw [a2];simp only [bsm];rw [a3];simp only [fld,hi,ha,au]
theorem HR (h:Pv C s k g W q ks):∃L1 i c,rp1 ⟨q.L,hc q.At W ks.length,q.Auto⟩=some (L1,((i:Nat):Int),((c:Nat):Int),false,q.Auto)/\i<ks.length/\c+1<=W/\L1.length=ks.length/\(∀x∈L1,Okl W x):=by
 have h1:=h.set (hc q.At W ks.length) q.Auto;have hd:=vf q.At h.g.w1 h.g.h1;obtain ⟨s2,q2,ks2,a1,a2,v2,n2,hd2,au,pe⟩:=Jb h1 hd;have hr:=hd2.rr;have hcc:=hd2.cc;obtain ⟨i,hi⟩:∃i:Nat,q2.At.Row=(i:Int):=⟨q2.At.Row.toNat,by omega⟩;obtain ⟨a,ha⟩:∃a:Nat,q2.At.Col=(a:Int):=⟨q2.At.Col.toNat,by omega⟩;refine ⟨q2.L,i,a,?_,by omega,by omega,by rw [v2.len,n2],v2.ok⟩;rw [a2];simp only [fld,hi,ha,au,pe]
theorem Dc (W:Int) (z:(List ah)×Int×Int×Bool×Bool):rp2 1 W z=some z:=by
 unfold rp2;simp only [aX,bsm];rw [ab (by simp)]
theorem Ej (h:Pv C s k g W q ks){p1 p2:Int}{t1 t2:List Int}(ht1:t1.length<=1000000) (ht2:t2.length<=1000000) (hc1:(cl2 p1 t1 W).1=1){q':ag}{at_:ai}(hp:aV q p1 t1=some (q',at_))
  {s' C':Sto}{ks':List Nat}(h':Pv C' s' k g W q' ks') (hk:ks'.length=ks.length):aV ⟨q'.L,at_,q'.Auto⟩ p2 t2=aV q p2 t2:=by
 obtain ⟨L1,i,c,e1,hi,hcw,hL1,hok1⟩:=HR h;have w1:=h.g.w1;have w2:=h.g.w2;have hh2:=h.g.h2;have r1:rdy q W ks.length 1=some (L1,(i:Int),(c:Int),false,q.Auto):=by
  unfold rdy;rw [e1];exact Dc (W:Int) _
 have hq:=kS (.inl rfl) h r1 hi hcw hL1 hok1 p1 t1 ht1 hc1;rw [hp] at hq;simp only [aK,ib] at hq;obtain ⟨rfl,rfl⟩:=hq;simp only [Ei];have hlt:i<L1.length:=by omega
 generalize hX:(⟨pl (L1.getD i dl).Cells c (dD (1:Nat) (fx (cl2 p1 t1 W).2)),pw (L1.getD i dl).Cells (L1.getD i dl).Wrap c 1⟩:ah)=X;have hst:=oL 1 (.inl rfl) (fx (cl2 p1 t1 W).2);have hcells:(L1.getD i dl).Cells.length=W:=by
  rw [gdl hlt];exact (hok1 _ (ay hlt)).2
 have hXc:X.Cells.length=W:=by rw [<-hX]; simp only [jq]; exact hcells
 have h2:=h'.set ⟨(i:Int),(c:Int),false⟩ q.Auto;simp only [Ei] at h2;rw [hX] at h2;have hcid:hc ⟨(i:Int),(c:Int),false⟩ W ks.length=⟨(i:Int),(c:Int),false⟩:=Ji ⟨by simp only; omega,by simp only; omega,fun e=>by cases e⟩;have e2:rp1 ⟨L1.set i X,hc ⟨(i:Int),(c:Int),false⟩ W ks'.length,q.Auto⟩=some (L1.set i X,(i:Int),(c:Int),false,q.Auto):=by
  rw [hk,hcid];unfold rp1;simp only [aj,aU]
 have hg:(L1.set i X).getD i dl=X:=by
  rw [aq,bp hlt];rfl
 have hokX:∀x∈L1.set i X,Okl W x:=h2.ok;obtain ⟨hdd,hdw⟩:=GR p2 t2 w1;have over:∀(a d:Nat),d=1\/d=2->a<=c->c+1<=a+d->a+d<=W->∀p:List aa,p.length=d->(L1.set i X).set i ⟨pl ((L1.set i X).getD i dl).Cells a p,pw ((L1.set i X).getD i dl).Cells ((L1.set i X).getD i dl).Wrap a d⟩=L1.set i ⟨pl (L1.getD i dl).Cells a p,pw (L1.getD i dl).Cells (L1.getD i dl).Wrap a d⟩:=by
  intro a d _ g1 g2 g3 p hpl;rw [hg,List.set_set]
  congr 1
  rw [<-hX];simp only;have o1:=zX (l:=(L1.getD i dl).Cells) (p:=dD (1:Nat) (fx (cl2 p1 t1 W).2)) (p':=p) g1 (by omega) (by omega);have o2:=De (l:=(L1.getD i dl).Cells) (w:=(L1.getD i dl).Wrap) (p:=dD (1:Nat) (fx (cl2 p1 t1 W).2)) (p':=p) g1 (by omega) (by omega);rw [hst,hpl] at o2;rw [o1,o2]
 have fin:∀(a d:Nat) (pd pd':Bool),d=1\/d=2->(cl2 p2 t2 W).1=d->a<=c->c+1<=a+d->a+d<=W->rdy q W ks.length d=some (L1,(i:Int),(a:Int),pd,q.Auto)->rdy ⟨L1.set i X,⟨(i:Int),(c:Int),false⟩,q.Auto⟩ W ks'.length d=some (L1.set i X,(i:Int),(a:Int),pd',q.Auto)->
   aV ⟨L1.set i X,⟨(i:Int),(c:Int),false⟩,q.Auto⟩ p2 t2=aV q p2 t2:=by
  intro a d pd pd' g0 g1 g2 g3 g4 b1 b2;rw [kS g0 h b1 hi g4 hL1 hok1 p2 t2 ht2 g1,kS g0 h2 b2 (by omega) g4 (by rw [cq]; omega) hokX p2 t2 ht2 g1];have:=over a d g0 g2 g3 g4 (dD d (fx (cl2 p2 t2 W).2)) (oL d g0 _);unfold Ei;rw [this]
 have f1:∀(L:List ah) (d:Nat),d=2->c+1<W->rp2 d W (L,(i:Int),(c:Int),false,q.Auto)=some (L,(i:Int),(c:Int),false,q.Auto):=by
  intro L d hd hcn;unfold rp2;simp only [aX,bsm];rw [aQ (by omega),ab (by simp only [ao,aS]; omega)]
 rcases hdd with hd1|hd2
 ·refine fin c 1 false false (.inl rfl) hd1 (av _) (av _) hcw r1 ?_;unfold rdy;rw [e2];exact Dc (W:Int) _
 ·by_cases hcn:c+1<W
  ·refine fin c 2 false false (.inr rfl) hd2 (av _) (by omega) (by omega) ?_ ?_
   ·unfold rdy;rw [e1];exact f1 _ 2 rfl hcn
   ·unfold rdy;rw [e2];exact f1 _ 2 rfl hcn
  ·have hcW:(c:Int)=(W:Int)-1:=by omega
   have ew1:w64 ((W:Int)-1)=((W-1:Nat):Int):=by rw [aQ (by omega)]; omega
   have ew2:w64 ((W:Int)-2)=((W-2:Nat):Int):=by rw [aQ (by omega)]; omega
   cases hau:q.Auto with
   | true=>
    have hpa:∀L:List ah,L.length=ks.length->(L.getD i dl).Cells.length=W->rp2 (2:Nat) W (L,(i:Int),(c:Int),false,true)=
      (dq ⟨L.set i ⟨pl (L.getD i dl).Cells (W-1) [bl],pw (L.getD i dl).Cells (L.getD i dl).Wrap (W-1) 1⟩,⟨(i:Int),(c:Int),false⟩,true⟩).bind fun x_60=>(some (x_60.L,x_60.At.Row,x_60.At.Col,x_60.At.Pending,x_60.Auto):Option ((List ah)×Int×Int×Bool×Bool)):=by
     intro L hL hLw;unfold rp2;simp only [aX,bsm];rw [ae (by simp only [ao,aS]; rw [ew1]; omega)];simp only [bA];rw [qD _ (by decide)];simp only [bsm];rw [show (List.replicate (1:Int).toNat (⟨0,[]⟩:aa))= [bl] from rfl,ew1,uS (by omega) (by omega) (by omega) (by decide) (by omega)];simp only [bsm];rfl
    obtain ⟨L2,i2,a2,pd2,g1,g2,g3,g4,g5⟩:=FU h (.inr rfl) (by omega:2<=W);have hsame:rdy ⟨L1.set i X,⟨(i:Int),(c:Int),false⟩,true⟩ W ks'.length 2=rdy q W ks.length 2:=by
     rw [hau] at e1 e2;unfold rdy;rw [hau,e1,e2];simp only [bsm];rw [hpa _ (by rw [cq]; omega) (by rw [hg]; exact hXc),hpa _ hL1 hcells];rw [over (W-1) 1 (.inl rfl) (by omega) (by omega) (by omega) [bl] rfl]
    rw [hau] at h2;rw [kS (.inr rfl) h g1 g2 g3 g4 g5 p2 t2 ht2 hd2,kS (.inr rfl) h2 (hsame.trans g1) (by omega) g3 (by omega) g5 p2 t2 ht2 hd2]
   | false=>
    have hna:∀L:List ah,rp2 (2:Nat) W (L,(i:Int),(c:Int),false,q.Auto)=some (L,(i:Int),((W-2:Nat):Int),false,q.Auto):=by
     intro L;unfold rp2;simp only [aX,bsm];rw [ae (by simp only [ao,aS]; rw [ew1]; omega)];simp only [hau,aj,aU];rw [ew2]
    have key:=fin (W-2) 2 false false (.inr rfl) hd2 (by omega) (by omega) (by omega) (by unfold rdy; rw [e1]; exact hna _) (by unfold rdy; rw [e2]; exact hna _);rw [hau] at key;exact key
end Go.Proofs.YtkgjnbiiiifoaaaGreatDoor
namespace Go.Proofs.YtkgjnbiiiifoaaaGreatDoor
open Go Go.Lt
variable {s:Sto}{k g W:Nat}{l p p':List aa}{w:Bool}{q:ag}{ks:List Nat}
theorem IB {x:Int}(h:vld x=true):gF x=x:=by unfold gF; rw [ae h]
theorem CH (x:Int):gF (gF x)=gF x:=IB (AU x)
theorem Gy {t:List Int}(ht:t.length<=15) (x:Int):fx (t++ [gF x])=fx (t++ [x]):=by
 unfold fx;rw [aG (by simp; omega),aG (by simp; omega),bK,bK];simp [CH]
theorem Fs {d:Nat}(hd:d=1\/d=2){t:List Int}(ht:t≠ []):dD (d:Int) t=if d=2 then [⟨2,t⟩,⟨3,[]⟩] else [⟨1,t⟩]:=by
 unfold dD;rw [ab ht];rcases hd with rfl|rfl <;> rfl
theorem Es {l0:List aa}{a d:Nat}{t:List Int}(hdd:d=1\/d=2) (h:s.row_Row[k]? = some ⟨pl l0 a (dD d t),w⟩) (hs:Snd (pl l0 a (dD d t))) (hl:l0.length<=1024) (ha:a+d<=l0.length) (ht1:1<=t.length) (ht2:t.length<=15) (x:Int):
  oV s (some k) a x=some (s.sr k ⟨pl l0 a (dD d (fx (t++ [x]))),pw (pl l0 a (dD d t)) w a d⟩,true):=by
 have hne:t≠ []:=fun e=>by rw [e] at ht1; simp at ht1
 have hsl:=oL d hdd t;have hc:pc l0 a (dD d t) a=⟨(d:Int),t⟩:=by
  rw [FX ⟨av _,by rw [hsl]; omega⟩,nF,Fs hdd hne];rcases hdd with rfl|rfl <;> rfl
 have hkd:kd (pl l0 a (dD d t)) a=(d:Int):=by rw [Gk (by omega),hc]
 have hm:mat (pl l0 a (dD d t)) (a:Int)=some a:=by
  unfold mat;rw [ae (by rw [jq]; omega),bS,hkd,ab (by omega),ab (by omega)]
 unfold oV;rw [Il h hs a (by omega),hm];have hg:(pl l0 a (dD d t)).getD a bl=⟨(d:Int),t⟩:=by rw [aq,se (by omega),hc]; rfl
 simp only [bsm,cP,dR,hg,hkd];rw [ab (by simp; omega),fg (by simp; omega)];simp only [bsm];have hsl2:=oL d hdd (fx (t++ [x]));rw [F9 h hs (by rw [jq]; exact hl) _ (by simp; omega) (by rw [hsl2,jq]; exact ha),zX (av a) (by omega) (by omega),hsl2];simp only [bsm,Er.isNil]
def zb (b:Int):Bool:=b==1 || b==2 || b==3 || b==4 || b==5 || b==10 || b==11
def b2 (x:an):Bool:= !zb x.Break && (x.East==1 || x.East==2)
theorem CS (b:Int):mZ b=some (zb b):=by
 unfold mZ zb;by_cases h1:b=1
 ·subst h1; rfl
 by_cases h2:b=2
 ·subst h2; rfl
 by_cases h3:b=3
 ·subst h3; rfl
 by_cases h4:b=4
 ·subst h4; rfl
 by_cases h5:b=5
 ·subst h5; rfl
 by_cases h6:b=10
 ·subst h6; rfl
 by_cases h7:b=11
 ·subst h7; rfl
 simp [h1,h2,h3,h4,h5,h6,h7]
theorem G5 (x:an):∃n,nN x=some n/\(n==2)=b2 x:=by
 unfold nN b2;rw [CS];simp only [bsm,bu]
 cases zb x.Break with
 | true=>exact ⟨0,rfl,rfl⟩
 | false=>
  cases h:(x.East==1 || x.East==2) with
  | true=>exact ⟨2,by simp [h],rfl⟩
  | false=>exact ⟨1,by simp [h],rfl⟩
def gz (y:aY) (r:Int) (x:an):aY:=⟨true,x.Pict,y.wide || (b2 x || (y.some && ((r==65039 && y.pict) || x.Pict || x.Break==6)))⟩
def wz (y:aY):Int:=if y.wide then 2 else 1
theorem xZ (y:aY) (r:Int) (x:an):bX y r x=some (gz y r x,wz (gz y r x)):=by
 have hw:co y r x=some (b2 x || (y.some && ((r==65039 && y.pict) || x.Pict || x.Break==6))):=by
  unfold co;obtain ⟨n,h1,h2⟩:=G5 x;rw [h1];simp only [bsm,h2,aX,bu]
  cases b2 x <;> cases y.some <;> rfl
 unfold bX;rw [hw];simp only [bsm,bu,aj,aU];unfold wz gz;split <;> simp_all
structure Cv (c:bG) (t:List Int):Prop where
 n:c.n=(t.length:Int)
 h:t.length<=16
 t:(a16 c.text).take t.length=t
theorem Ao {c:bG}{t:List Int}(h:Cv c t):bQ c=some (decide (t.length=16)):=by
 unfold bQ dj;simp only [aj,aU,bsm,h.n]
 congr 1
 rw [ci,aS,am];omega
theorem Kq {c:bG}{t:List Int}(h:Cv c t) (h2:t.length<16) (x:Int):∃c',cx c x=some (c',true)/\Cv c' (t++ [x]):=by
 unfold cx;rw [Ao h];simp only [dR,bsm];rw [ab (by simp; omega),h.n,bd (by rw [pC]; exact h2)];simp only [bsm];refine ⟨_,rfl,by simp only; rw [aQ (by omega)]; simp,by simp; omega,?_⟩;simp only;rw [Cc,bS,ax];simp only [aM,bf];rw [ak (by rw [cq,pC]; exact h2),List.take_set_of_le (av _),h.t,List.getElem_set_self]
theorem Dz {c:bG}{t:List Int}(h:Cv c t):bP c=some t:=by
 unfold bP;simp only [aj,aU,h.n];have:=ui (xs:=a16 c.text) (i:=0) (j:=t.length) (dk _) (by rw [pC]; exact h.h);rw [show ((0:Nat):Int)=0 by rfl] at this;rw [this];simp only [bsm,ph,Cf,h.t];unfold ge;rw [fg (by have:=h.h; simp; omega)];rfl
end Go.Proofs.YtkgjnbiiiifoaaaGreatDoor
