/- Parts of the proofs of ReadbackTells: the walk through the code, and plain Lean. No condition. -/
import Derived.Test.YtclmdpamofdoiaaGreatDoorRows
import Derived.JoinedOf
import Derived.RowKit
import Derived.KernelRfl
import Derived.SevenTiedAt
import Derived.Test.YtclmdpamofdoiaaGreatDoorRbC
set_option linter.unusedVariables false
set_option linter.unusedSimpArgs false
namespace Go.Proofs.YtclmdpamofdoiaaGreatDoor
open Go
set_option maxRecDepth 100000
theorem ma:laidOutB Tryz.prog=true:=by kernel_rfl
theorem pK:mapsRowed Tryz.prog=true:=by kernel_rfl
theorem qH:ownKnob Tryz.prog.godebug=none:=by kernel_rfl
theorem pJ:(Tryz.prog.stops== [])=true:=by kernel_rfl
theorem pP:(Tryz.prog.stopKnobs== [])=true:=by kernel_rfl
theorem pQ:Tryz.prog.stopsHeard=true:=by kernel_rfl
theorem oY:Tryz.prog.mayEnter=true:=by kernel_rfl
theorem pO:(Rows.mirrorGroupsRow.lifted==Tryz.prog.liftsFinal)=true:=by kernel_rfl
theorem pM:(Tryz.prog.make==some Rows.mirrorGroupsRow.make)=true:=by kernel_rfl
theorem pL:(Rows.mirrorGroupsRow.plainKeys==Tryz.prog.plainKeys)=true:=by kernel_rfl
theorem ol:Tryz.pinned.checked.prog.mainIs=some ((true,"28cfc5ba7f0983bf9f248b3c71266c5674665e12ea36bcccb349e2771c98ab97").1,(true,"28cfc5ba7f0983bf9f248b3c71266c5674665e12ea36bcccb349e2771c98ab97").2.toList):=by kernel_rfl
theorem pN:true=Tryz.prog.looks []:=by kernel_rfl
end Go.Proofs.YtclmdpamofdoiaaGreatDoor
namespace Go.Proofs.YtclmdpamofdoiaaGreatDoor
open Go Go.Lt Go.ChangeShapes Go.WideShapes Go.RowKit
set_option maxRecDepth 100000
theorem pr {H:Type} (d:DataW H):1≤Rows.uptoBulk d:=by
 cases d with
 | lit l=>cases l <;> simp [Rows.uptoBulk]
 | nil=>simp [Rows.uptoBulk]
 | ptr d=>simp [Rows.uptoBulk]
 | slice elems spare=>simp [Rows.uptoBulk]
 | agg parts=>simp [Rows.uptoBulk]
 | iface t d=>simp [Rows.uptoBulk]
 | map entries=>simp [Rows.uptoBulk]
 | held h=>simp [Rows.uptoBulk]
theorem mi {H:Type} {d:DataW H} {l:List (DataW H)} (h:d∈l):Rows.uptoBulk d≤Rows.uptoBulkAll l:=by
 induction l with
 | nil=>cases h
 | cons x r ih=>
  simp only [Rows.uptoBulkAll]
  cases List.mem_cons.1 h with
  | inl e=>subst e; omega
  | inr e=>have:=ih e; omega
theorem nF {H:Type} (elems spare:List (DataW H)):Rows.uptoBulkAll elems≤Rows.uptoBulk (.slice elems spare):=by
 simp only [Rows.uptoBulk];omega
theorem lF {H:Type} (parts:List (DataW H)):Rows.uptoBulkAll parts≤Rows.uptoBulk (.agg parts):=by
 simp only [Rows.uptoBulk];omega
theorem ni {H α:Type} {μ:α→Nat}:∀(xs:List α) (ds:List (DataW H)),(∀(i:Nat) (x:α),xs[i]? = some x→∃d,ds[i]? = some d∧μ x≤Rows.uptoBulk d)→(xs.map μ).sum≤Rows.uptoBulkAll ds
 | [],_,_=>eg _
 | x :: xs,[],h=>by
  obtain ⟨d,hd,_⟩:=h 0 x rfl;cases hd
 | x :: xs,d :: ds,h=>by
  obtain ⟨d',hd,hb⟩:=h 0 x rfl;cases hd;have:=ni xs ds fun i y hy=>by
   obtain ⟨d',h1,h2⟩:=h (i+1) y (by simpa using hy);exact ⟨d',by simpa using h1,h2⟩
  simp only [dg,eD,Rows.uptoBulkAll];omega
def RdB (P:Program) (t:TypeId) {α:Type} (R:Rp α) (K:α→Prop) (μ:α→Nat):Prop:=
 P.cellsOf t=R.size∧∀{H:Type} {enc:TypeId×Value→H} {w:World} {sp:Nat→Bool} {held:Bool} {fuel:Nat} {cs:List Value} {x:DataW H×List MemPlace},
  DataW.trod enc P w 0 sp held fuel t cs=some x→∃y,R.cells (C0 w) cs y∧K y∧μ y≤Rows.uptoBulk x.1
theorem RdB.of {P:Program} {t:TypeId} {α:Type} {R:Rp α} {K:α→Prop} (h:Rd P t R K):RdB P t R K (fun _=>1):=
 ⟨h.1,fun hd=>let ⟨y,a,b⟩:=h.2 hd; ⟨y,a,b,pr _⟩⟩
theorem RdB.slice {P:Program} {t e:TypeId} {α:Type} {R:Rp α} {K:α→Prop} {μ:α→Nat} (ht:P.underlying t=some (.slice e)) (hc:P.cellsOf t=1) (h0:0 < R.size) (h:RdB P e R K μ):RdB P t (RL R) (fun xs=>xs.length≤maxLen∧∀x∈xs,K x) (fun xs=>(xs.map μ).sum):=by
 refine ⟨hc,fun {H enc w sp held fuel cs x} hd=>?_⟩;rcases DataW.trod_slice ht hd with ⟨rfl,_⟩ | ⟨a,len,cap,elems,rest,n,_,rfl,hx,_,hl,hm,hlen,hel,_,_⟩
 ·exact ⟨[],⟨_,rfl,Sl.nl R _⟩,⟨eg _,fun x hx=>by cases hx⟩,eg _⟩
 ·subst hx;obtain ⟨b,o,s⟩:=a;have key:∀i,i < len→∃x,(K x∧∃d,(elems.map (·.1))[i]? = some d∧μ x≤Rows.uptoBulk d)∧∃b' off l,(some ⟨b,o,s⟩:Option Addr)=some ⟨b',off,none⟩∧R.cells (C0 w) l x∧∀j u,l[j]? = some u→Im (C0 w) b' (off+i * R.size+j) u:=by
   intro i hi;have hs:s=none:=by
    have hE:=hel 0 (by omega);rw [af (show 0 < elems.length by omega),qb] at hE;obtain ⟨cs,hcs,_⟩:=hE;obtain ⟨c1,c2⟩:=mZ hcs;have hp:0 < cs.length:=by rw [c1,h.1]; exact h0
    have:=World.cell?_spot (c2 0 _ (af hp));simpa [Addr.add] using this
   subst hs;have hE:=hel i hi;rw [af (show i < elems.length by omega),qb] at hE;obtain ⟨cs,hcs,hr⟩:=hE;obtain ⟨c1,c2⟩:=mZ hcs;have hget:(elems.map (·.1))[i]? = some elems[i].1:=by
    rw [cR,af (show i < elems.length by omega)];rfl
   obtain ⟨x,hx,hk,hb⟩:=h.2 hr;refine ⟨x,⟨hk,_,hget,hb⟩,b,o,cs,rfl,hx,fun j u hu=>im0 ?_⟩;have:=c2 j u hu;rw [qd,qd,h.1] at this;exact this
  obtain ⟨xs,hxl,hxs⟩:=qG len key;subst hxl;refine ⟨xs,⟨_,rfl,some ⟨b,o,s⟩,cap,rfl,hl,hm,fun i x hx=>(hxs i x hx).2⟩,⟨cy hl hm,fun x hx=>?_⟩,cy (ni xs _ fun i x hx=>(hxs i x hx).1.2) (nF _ _)⟩;obtain ⟨i,hi⟩:=List.mem_iff_getElem?.1 hx;exact (hxs i x hi).1.1
theorem RdB.field {P:Program} {H:Type} {enc:TypeId×Value→H} {w:World} {sp:Nat→Bool} {held:Bool} {n:Nat} {cs:List Value} {fs:Array Field} {xs:List (DataW H×List MemPlace)}
  (hf:∀(i:Nat) (f:Field),fs[i]? = some f→DataW.trod enc P w 0 sp held n f.type ((cs.drop f.offset).take (P.cellsOf f.type))=xs[i]?) (hx:xs.length=fs.size)
  (i:Nat) {f:Field} (hi:fs[i]? = some f) {α:Type} {R:Rp α} {K:α→Prop} {μ:α→Nat} (h:RdB P f.type R K μ):∃y,R.cells (C0 w) ((cs.drop f.offset).take R.size) y∧K y∧∃d,(xs.map (·.1))[i]? = some d∧μ y≤Rows.uptoBulk d:=by
 have hlt:=(Array.getElem?_eq_some_iff.1 hi).1;have:=hf i f hi;have hxi:=af (show i < xs.length by omega);rw [hxi,h.1] at this;obtain ⟨y,a,b,c⟩:=h.2 this;exact ⟨y,a,b,_,by rw [cR,hxi]; rfl,c⟩
theorem pu {P:Program} {H:Type} {enc:TypeId×Value→H} {w:World} {sp:Nat→Bool} {held:Bool} {t:TypeId} {v:Value} {d:DataW H} {p:List MemPlace} {α:Type} {R:Rp α} {K:α→Prop} {μ:α→Nat} {fs:Array Field} (ht:P.underlying t=some (.struct fs)) (h:RdB P t R K μ) (hok:Value.okWide P w .any 0 t v) (hd:DataW.Trod enc P w 0 sp held t v d p):
  ∃cs x,v= .agg cs∧R.cells (C0 w) cs.toList x∧K x∧μ x≤Rows.uptoBulk d:=by
 obtain ⟨fuel,hd⟩:=hd;obtain ⟨x,hx,hk,hb⟩:=h.2 hd;unfold Value.okWide at hok;rw [ht] at hok;obtain ⟨cs,rfl,_⟩:=hok;exact ⟨cs,x,rfl,hx,hk,hb⟩
theorem pq {H:Type} {l:List (DataW H)} {d e:DataW H} (h:l[0]? = some d) (h2:l[1]? = some e):Rows.uptoBulk d+Rows.uptoBulk e≤Rows.uptoBulkAll l:=by
 match l,h,h2 with
 | x :: y :: r,h,h2=>
  cases h;cases h2;simp only [Rows.uptoBulkAll];omega
theorem nE {H:Type} {l:List (DataW H)} (h:Rows.uptoSmall H l=true):Rows.uptoBulkAll l≤1048576:=by
 simpa [Rows.uptoSmall] using h
theorem oK (l:List Int):(l.map fun _=>1).sum=l.length:=by
 induction l with
 | nil=>rfl
 | cons x l ih=>
  rw [dg,eD,aM,ih];omega
theorem rc:RdB Tryz.prog 32 (RL (RI .i32)) (fun xs=>xs.length≤maxLen∧∀x∈xs,qx x) (fun xs=>(xs.map fun _=>1).sum):=RdB.slice Tryz.underlying32 (by kernel_rfl) (by decide) (RdB.of rI)
theorem qy:RdB Tryz.prog 114 ac py (fun c=>c.Text.length+1):=by
 refine ⟨by kernel_rfl,fun {H enc w sp held fuel cs x} h=>?_⟩;obtain ⟨xs,n,rfl,rfl,hl,hn,hf⟩:=jx Tryz.underlying114 h;replace hl:=hl.trans (show Tryz.prog.cellsOf 114=2 by kernel_rfl);obtain ⟨a0,a1,rfl⟩:=qN hl;obtain ⟨y0,e0,k0,d0,g0,b0⟩:=RdB.field hf hn 0 rfl (RdB.of D_3);have e0: [a0]= [.int .i64 y0]:=e0;cases e0;obtain ⟨y1,e1,k1,d1,g1,b1⟩:=RdB.field hf hn 1 rfl rc;obtain ⟨v1,e1,s1⟩:=e1;have e1: [a1]= [v1]:=e1;cases e1;refine ⟨⟨y0,y1⟩,⟨_,rfl,s1⟩,⟨k0,k1⟩,cy ?_ (lF _)⟩;have h2:=pq g0 g1;have h3:=oK y1;simp only at b1⊢;omega
theorem ra:RdB Tryz.prog 46 (RL ac) (fun xs=>xs.length≤maxLen∧∀x∈xs,py x) iJ:=RdB.slice Tryz.underlying46 (by kernel_rfl) (by decide) qy
theorem qZ:RdB Tryz.prog 48 aO qw (fun l=>iJ l.Cells):=by
 refine ⟨by kernel_rfl,fun {H enc w sp held fuel cs x} h=>?_⟩;obtain ⟨xs,n,rfl,rfl,hl,hn,hf⟩:=jx Tryz.underlying48 h;replace hl:=hl.trans (show Tryz.prog.cellsOf 48=2 by kernel_rfl);obtain ⟨a0,a1,rfl⟩:=qN hl;obtain ⟨y0,e0,k0,d0,g0,b0⟩:=RdB.field hf hn 0 rfl ra;obtain ⟨v0,e0,s0⟩:=e0;have e0: [a0]= [v0]:=e0;cases e0;obtain ⟨y1,e1,k1,d1,g1,b1⟩:=RdB.field hf hn 1 rfl (RdB.of D_4);have e1: [a1]= [.bool y1]:=e1;cases e1;exact ⟨⟨y0,y1⟩,⟨_,rfl,s0⟩,⟨k0,k1⟩,cy b0 (cy (mi (qV g0)) (lF _))⟩
theorem rd:RdB Tryz.prog 27 (RL aO) (fun xs=>xs.length≤maxLen∧∀x∈xs,qw x) gV:=RdB.slice Tryz.underlying27 (by kernel_rfl) (by decide) qZ
theorem rb:RdB Tryz.prog 45 nH rC (fun v=>gV v.Lines):=by
 refine ⟨by kernel_rfl,fun {H enc w sp held fuel cs x} h=>?_⟩;obtain ⟨xs,n,rfl,rfl,hl,hn,hf⟩:=jx Tryz.underlying45 h;replace hl:=hl.trans (show Tryz.prog.cellsOf 45=7 by kernel_rfl);obtain ⟨a0,a1,a2,a3,a4,a5,a6,rfl⟩:=rr hl;obtain ⟨y0,e0,k0⟩:=Rd.field hf hn 0 rfl D_3;have e0: [a0]= [.int .i64 y0]:=e0;cases e0;obtain ⟨y1,e1,k1⟩:=Rd.field hf hn 1 rfl D_3;have e1: [a1]= [.int .i64 y1]:=e1;cases e1;obtain ⟨y2,e2,k2,d2,g2,b2⟩:=RdB.field hf hn 2 rfl rd;obtain ⟨v2,e2,s2⟩:=e2;have e2: [a2]= [v2]:=e2;cases e2;obtain ⟨y3,e3,k3⟩:=Rd.field hf hn 3 rfl rH;have e3: [a3,a4,a5]= [.int .i64 y3.Row,.int .i64 y3.Col,.bool y3.Pending]:=e3;cases e3;obtain ⟨y4,e4,k4⟩:=Rd.field hf hn 4 rfl D_4;have e4: [a6]= [.bool y4]:=e4;cases e4;exact ⟨⟨y0,y1,y2,y3,y4⟩,⟨_,rfl,s2⟩,⟨k0,k1,k2,k3,k4⟩,cy b2 (cy (mi (qV g2)) (lF _))⟩
end Go.Proofs.YtclmdpamofdoiaaGreatDoor
