/- Parts of the proofs of PlaySteps: the walk through the code, and plain Lean. No condition. -/
import Derived.Test.YtclmdpamofdoiaaGreatDoorPtA
import Derived.Test.YtclmdpamofdoiaaGreatDoorProg
import Derived.Shelf.Spec.SlicesInsertGrow
import Derived.Shelf.Slices.Delete
import Derived.Test.YtclmdpamofdoiaaGreatDoorPtB
import Derived.Test.YtclmdpamofdoiaaGreatDoorPtC
import Derived.RangeFuncSeq
import Derived.RangeFuncRecord
import Derived.RangeFuncLeaves
set_option linter.unusedVariables false
set_option linter.unusedSimpArgs false
namespace Go.Proofs.YtclmdpamofdoiaaGreatDoor
open Go Go.Lt
set_option maxRecDepth 10000
set_option linter.unusedVariables false
attribute [local irreducible] W WL AC
theorem tY {Q:Program}(w:World) (dT sT ty E:TypeId) (g o dLen dCap:Nat) (a:Addr) (sLen sCap n size:Nat) (us vs:List Value) (T:TypeId)
  (hu:Q.underlying dT=some (.slice E)) (hs:(Q.info? E).map (·.size)=some size) (hn:Nat.min sLen dLen=n) (hul:us.length=n*size)
  (hsrc:∀j v,us[j]? = some v->w.cell? (a.add j)=some v) (hrow:w.heap[g]? = some (.cells vs.toArray T (0,0))) (hl:o+us.length<=vs.length) (h1:∀v∈us,v.oneCell'=true):
  (Builtin.copy_ #[dT,sT] ty #[.slice (some ⟨g,o,none⟩) dLen dCap,.slice (some a) sLen sCap]).run Q w= .ok (goInt n) (w.setRow g (vs.take o++us++vs.drop (o+us.length)).toArray):=by
 obtain ⟨i,hi,hsz⟩:=Option.map_eq_some_iff.1 hs;have hf:=IW (P:=Q) (w:=w) size n a sLen sCap us hul hsrc;have hst:=yY Q g o T us 0 vs.toArray w hrow (by simpa using hl) h1;simp only [qO] at hst;simp [Builtin.copy_,bR hu,Builtin.lenOf,sizeOf,typeInfo,hi,hsz,hn,hf,hst]
set_option maxHeartbeats 4000000 in
set_option maxRecDepth 100000 in
theorem CA {w:World}{g n cap i vb m vc:Nat}{vs us vs2:List Value}{T T2:TypeId}(hrow:w.heap[g]? = some (.cells vs.toArray T (0,0))) (hrow2:w.heap[vb]? = some (.cells vs2.toArray T2 (0,0)))
  (hi:i<n) (hm:0<m) (hroom:n+m<=cap) (hcap:cap*2<=vs.length) (hc63:cap<=9223372036854775807) (hvb:vb≠g) (hul:us.length=m*2) (hus:∀(j:Nat) (v:Value),us[j]? = some v->vs2[j]? = some v)
  (h1:∀v∈vs.take (n*2),v.oneCell'=true) (h2:∀v∈us,v.oneCell'=true):
  Calls Tryz.prog 250 #[.slice (some ⟨g,0,none⟩) n cap,.int .i64 i,.slice (some ⟨vb,0,none⟩) m vc] w fun e w'=>
   e= .returned (.slice (some ⟨g,0,none⟩) (n+m) cap)/\w'=(w.drew.setRow g (vs.take ((i+m)*2)++(vs.drop (i*2)).take ((n-i)*2)++vs.drop ((n+m)*2)).toArray).setRow g (vs.take (i*2)++us++(vs.drop (i*2)).take ((n-i)*2)++vs.drop ((n+m)*2)).toArray:=by
 have hsz:(Tryz.prog.info? 114).map (·.size)=some 2:=by kernel_rfl
 have hov:∀lb cb,(callFunc 284 #[.slice (some ⟨vb,0,none⟩) m vc,.slice (some ⟨g,(i+m)*2,none⟩) lb cb]).run Tryz.prog w= .ok (.value (.bool false)) w:=fun lb cb=>by
  rw [cV Tryz.func284 (by kernel_rfl) (by kernel_rfl) (by kernel_rfl) (e:=Extern.SlicesOverlaps.overlaps #[46,46] #[4]) (by kernel_rfl)];rw [Lib.run_overlaps_apart w 46 4 114 Tryz.underlying46 2 (fun w=>by kernel_rfl) ⟨vb,0,none⟩ ⟨g,(i+m)*2,none⟩ m vc lb cb hvb T2 T vs2.length vs.length (by simp [World.shape?,hrow2]) (by simp [World.shape?,hrow]) (by omega) (by simp [World.frozen?,hrow2]) (by simp [World.frozen?,hrow2])];rfl
 have hdl:((vs.drop (i*2)).take ((n-i)*2)).length=(n-i)*2:=by rw [ay,bB]; omega
 have hcp1:∀ty dc sc,(Builtin.copy_ #[46,46] ty #[.slice (some ⟨g,(i+m)*2,none⟩) (n+m-(i+m)) dc,.slice (some ⟨g,i*2,none⟩) (n+m-i) sc]).run Tryz.prog w.drew= .ok (goInt ((n-i:Nat):Int)) (w.drew.setRow g (vs.take ((i+m)*2)++(vs.drop (i*2)).take ((n-i)*2)++vs.drop ((n+m)*2)).toArray):=fun ty dc sc=>by
  have:=tY (Q:=Tryz.prog) w.drew 46 46 ty 114 g ((i+m)*2) (n+m-(i+m)) dc ⟨g,i*2,none⟩ (n+m-i) sc (n-i) 2 ((vs.drop (i*2)).take ((n-i)*2)) vs T Tryz.underlying46 hsz (by simp only [BM]; split <;> omega) hdl
   (fun j v hj=>by
    rw [fI];rw [aW] at hj;split at hj
    ·rw [bP] at hj;rw [gL w.drew g (i*2+j) vs.toArray T (0,0) hrow,cg];exact hj
    ·cases hj) hrow (by rw [hdl]; omega) (fun v hv=>h1 v (by rw [show (n-i)*2=n*2-i*2 by omega,<-iI] at hv; exact fS hv))
  rw [hdl,show (i+m)*2+(n-i)*2=(n+m)*2 by omega] at this;exact this
 obtain ⟨W1,hW1⟩:∃W1,W1=w.drew.setRow g (vs.take ((i+m)*2)++(vs.drop (i*2)).take ((n-i)*2)++vs.drop ((n+m)*2)).toArray:=⟨_,rfl⟩;have hr1:W1.heap[g]? = some (.cells (vs.take ((i+m)*2)++(vs.drop (i*2)).take ((n-i)*2)++vs.drop ((n+m)*2)).toArray T (0,0)):=by
  rw [hW1];exact Bf w.drew g vs.toArray _ T (0,0) hrow
 have hr2:W1.heap[vb]? = some (.cells vs2.toArray T2 (0,0)):=by
  rw [hW1,GD w.drew g vb _ hvb];exact hrow2
 have hA2:(vs.take ((i+m)*2)++(vs.drop (i*2)).take ((n-i)*2)++vs.drop ((n+m)*2)).take (i*2)=vs.take (i*2):=by
  rw [aO,di (by rw [ay]; omega),fB,cH (by omega)]
 have hA3:(vs.take ((i+m)*2)++(vs.drop (i*2)).take ((n-i)*2)++vs.drop ((n+m)*2)).drop (i*2+m*2)=(vs.drop (i*2)).take ((n-i)*2)++vs.drop ((n+m)*2):=by
  have hl:(vs.take ((i+m)*2)).length=i*2+m*2:=by rw [ay]; omega
  rw [aO,<-hl,kQ]
 have hcp2:∀ty dc,(Builtin.copy_ #[46,46] ty #[.slice (some ⟨g,i*2,none⟩) (n+m-i) dc,.slice (some ⟨vb,0,none⟩) m vc]).run Tryz.prog W1= .ok (goInt m) (W1.setRow g (vs.take (i*2)++us++(vs.drop (i*2)).take ((n-i)*2)++vs.drop ((n+m)*2)).toArray):=fun ty dc=>by
  have:=tY (Q:=Tryz.prog) W1 46 46 ty 114 g (i*2) (n+m-i) dc ⟨vb,0,none⟩ m vc m 2 us _ T Tryz.underlying46 hsz (by simp only [BM]; split <;> omega) hul
   (fun j v hj=>by
    rw [fI,gL W1 vb (0+j) vs2.toArray T2 (0,0) hr2,cg,js];exact hus j v hj) hr1 (by simp only [aA,ay,bB]; omega) h2
  rw [hul,hA2,hA3,<-aO] at this;exact this
 rw [<-hW1] at hcp1|-;have hw1:IntKind.i64.wrap ((i:Int)+(m:Int))=(i:Int)+(m:Int):=by rw [Ba]; omega
 have hb1:(0:Int)<=(i:Int)+(m:Int):=by omega
 have hin:i<=n:=by omega
 have hz1:¬((m:Int)=0):=by omega
 have hz2:¬((i:Int)=(n:Int)):=by omega
 have htn:((i:Int)+(m:Int)).toNat=i+m:=by omega
 have hb2:¬(cap=i+m):=by omega
 have hb3:(i:Int)<=(n:Int)+(m:Int):=by omega
 have hb4:¬(cap=i):=by omega
 have mixed:Tryz.prog.follows Departure.mixedOrders=true:=by kernel_rfl
 clear hA2 hA3 hr1 hr2 hW1 hdl h1 h2 hus hul
 go_enter Tryz.func250,Tryz.ntmps250
 go_wp2_with (simp only [hov])
 go_region_law_o (refine step_copy_runI rfl _ _ 46 46 rfl _ _ (by simp [Act.eval,Act.put]) (by simp [Act.eval,Act.put]) (hcp1 _ _ _) ?_)
 go_wp2_with (at_builtin; refine wpList_copy_runI _ rfl _ _ 46 46 rfl _ _ rfl rfl (hcp2 _ _) ?_)
 go_ret
 exact ⟨rfl,by simp only [aO]⟩
def om (k:Nat):List Value:=(Builtin.zeroCells (Value.agg #[.int .i64 0,.slice none 0 0]).cells k).toList
theorem oZ (k:Nat):(om k).length=k*2:=by
 unfold om;rw [IX,qf];rfl
set_option maxHeartbeats 4000000 in
set_option maxRecDepth 100000 in
theorem DZ {w:World}{g n cap i vb m vc:Nat}{vs us vs2:List Value}{T T2:TypeId}(hrow:w.heap[g]? = some (.cells vs.toArray T (0,0))) (hrow2:w.heap[vb]? = some (.cells vs2.toArray T2 (0,0)))
  (hi:i<n) (hm:0<m) (hnc:n<=cap) (hroom:cap<n+m) (hcap:cap*2<=vs.length) (hbig:(n+m)*128<=140737488355328) (hul:us.length=m*2) (hus:∀(j:Nat) (v:Value),us[j]? = some v->vs2[j]? = some v)
  (h1:∀v∈vs.take (n*2),v.oneCell'=true) (h2:∀v∈us,v.oneCell'=true):
  Calls Tryz.prog 250 #[.slice (some ⟨g,0,none⟩) n cap,.int .i64 i,.slice (some ⟨vb,0,none⟩) m vc] w fun e w'=>
   e= .returned (.slice (some ⟨w.heap.size,0,none⟩) (n+m) (grownCap w (n+m) cap 114))/\
   w'=(((w.drew.alloc (.cells (vs.take (i*2)++om (n+m-i)++om (grownCap w (n+m) cap 114-(n+m))).toArray 114)).setRow w.heap.size (vs.take (i*2)++us++(om (n+m-i)++om (grownCap w (n+m) cap 114-(n+m))).drop (m*2)).toArray).drew).setRow w.heap.size
    (vs.take (i*2)++us++(vs.drop (i*2)).take ((n-i)*2)++(om (n+m-i)++om (grownCap w (n+m) cap 114-(n+m))).drop ((n+m-i)*2)).toArray:=by
 have hsz:(Tryz.prog.info? 114).map (·.size)=some 2:=by kernel_rfl
 obtain ⟨ti,hti,hzz⟩:=Option.map_eq_some_iff.1 (show (Tryz.prog.info? 114).map (fun i=>(i.zero,i.size,i.bytes))=some (some (Value.agg #[.int .i64 0,.slice none 0 0]),2,32) by kernel_rfl);simp only [iq] at hzz;obtain ⟨hz0,hz3,hz4⟩:=hzz;have hold:(Builtin.firstCells ti.size i (.slice (some ⟨g,0,none⟩) i cap)).run Tryz.prog w.drew= .ok (vs.take (i*2)).toArray w.drew:=by
  rw [hz3];exact IW w.drew 2 i ⟨g,0,none⟩ i cap (vs.take (i*2)) (by rw [ay]; omega) (fun j v hj=>by
   rw [fI,js,gL w.drew g j vs.toArray T (0,0) hrow,cg];rw [aW] at hj;split at hj
   ·exact hj
   ·cases hj)
 obtain ⟨N,hN⟩:∃N,N=w.heap.size:=⟨_,rfl⟩;obtain ⟨Gc,hGc⟩:∃Gc,Gc=grownCap w (n+m) cap 114:=⟨_,rfl⟩;obtain ⟨Zs,hZs⟩:∃Zs,Zs=om (n+m-i)++om (Gc-(n+m)):=⟨_,rfl⟩;have hZl:Zs.length=(n+m-i)*2+(Gc-(n+m))*2:=by rw [hZs,aA,oZ,oZ]
 obtain ⟨W2,hW2⟩:∃W2,W2=w.drew.alloc (.cells (vs.take (i*2)++Zs).toArray 114):=⟨_,rfl⟩;have hkk:(n:Int)+(m:Int)-(i:Int)=((n+m-i:Nat):Int):=by omega
 have hrz:∀ty,(Builtin.append_ #[46,3] ty #[.slice (some ⟨g,0,none⟩) i cap,.int .i64 ((n:Int)+(m:Int)-(i:Int))]).run Tryz.prog w= .ok (.slice (some ⟨N,0,none⟩) (n+m) Gc) W2:=fun ty=>by
  have h:=Lib.run_append_grow_zeros (P:=Tryz.prog) w 46 3 ty 114 ti _ .i64 .i64 Tryz.underlying46 Tryz.underlying3 hti hz0 (some ⟨g,0,none⟩) i cap (vs.take (i*2)) hold (n+m-i) (by omega) (by omega) (by omega) (by omega) (by rw [hz4]; omega) (by rw [hz4,show i+(n+m-i)=n+m by omega]; exact growslice_fits hroom (by omega));rw [show i+(n+m-i)=n+m by omega] at h;rw [hkk,hN,hGc,hW2,h,hZs,<-hGc]
  congr 3
  rw [<-aO];apply Jj;simp [om]
 have hNg:g<N:=by rw [hN]; exact (Array.getElem?_eq_some_iff.1 hrow).1
 have hNv:vb<N:=by rw [hN]; exact (Array.getElem?_eq_some_iff.1 hrow2).1
 have r2N:W2.heap[N]? = some (.cells (vs.take (i*2)++Zs).toArray 114 (0,0)):=by
  rw [hW2,hN];exact D1 w.drew _
 have r2g:W2.heap[g]? = some (.cells vs.toArray T (0,0)):=by
  rw [hW2,cq w.drew _ g (by rw [hN] at hNg; exact hNg)];exact hrow
 have r2v:W2.heap[vb]? = some (.cells vs2.toArray T2 (0,0)):=by
  rw [hW2,cq w.drew _ vb (by rw [hN] at hNv; exact hNv)];exact hrow2
 have ht:(vs.take (i*2)).length=i*2:=by rw [ay]; omega
 have hGe:n+m<=Gc:=by rw [hGc]; exact Iu w _ _ _
 obtain ⟨W3,hW3⟩:∃W3,W3=W2.setRow N (vs.take (i*2)++us++Zs.drop (m*2)).toArray:=⟨_,rfl⟩;have hcpA:∀ty dc,(Builtin.copy_ #[46,46] ty #[.slice (some ⟨N,i*2,none⟩) (n+m-i) dc,.slice (some ⟨vb,0,none⟩) m vc]).run Tryz.prog W2= .ok (goInt m) W3:=fun ty dc=>by
  have:=tY (Q:=Tryz.prog) W2 46 46 ty 114 N (i*2) (n+m-i) dc ⟨vb,0,none⟩ m vc m 2 us _ 114 Tryz.underlying46 hsz (by simp only [BM]; split <;> omega) hul
   (fun j v hj=>by
    rw [fI,gL W2 vb (0+j) vs2.toArray T2 (0,0) r2v,cg,js];exact hus j v hj) r2N (by simp only [aA,ht,hZl]; omega) h2
  rw [hul,di (by omega),aC (by omega),<-dv,List.drop_left' ht] at this;rw [hW3];exact this
 have r3N:W3.heap[N]? = some (.cells (vs.take (i*2)++us++Zs.drop (m*2)).toArray 114 (0,0)):=by
  rw [hW3];exact Bf W2 N _ _ _ (0,0) r2N
 have r3g:W3.heap[g]? = some (.cells vs.toArray T (0,0)):=by
  rw [hW3,GD W2 N g _ (by omega)];exact r2g
 have hcpB:∀ty dc sc,(Builtin.copy_ #[46,46] ty #[.slice (some ⟨N,(i+m)*2,none⟩) (n+m-(i+m)) dc,.slice (some ⟨g,i*2,none⟩) (n-i) sc]).run Tryz.prog W3.drew= .ok (goInt ((n-i:Nat):Int)) (W3.drew.setRow N (vs.take (i*2)++us++(vs.drop (i*2)).take ((n-i)*2)++Zs.drop ((n+m-i)*2)).toArray):=fun ty dc sc=>by
  have hdl:((vs.drop (i*2)).take ((n-i)*2)).length=(n-i)*2:=by rw [ay,bB]; omega
  have hau:(vs.take (i*2)++us).length=(i+m)*2:=by rw [aA,ht,hul]; omega
  have:=tY (Q:=Tryz.prog) W3.drew 46 46 ty 114 N ((i+m)*2) (n+m-(i+m)) dc ⟨g,i*2,none⟩ (n-i) sc (n-i) 2 ((vs.drop (i*2)).take ((n-i)*2)) _ 114 Tryz.underlying46 hsz (by simp only [BM]; split <;> omega) hdl
   (fun j v hj=>by
    rw [fI];rw [aW] at hj;split at hj
    ·rw [bP] at hj;rw [gL W3.drew g (i*2+j) vs.toArray T (0,0) r3g,cg];exact hj
    ·cases hj) r3N (by rw [hdl,aA,hau,bB,hZl]; omega) (fun v hv=>h1 v (by rw [show (n-i)*2=n*2-i*2 by omega,<-iI] at hv; exact fS hv))
  rw [hdl] at this;rw [this]
  congr 3
  rw [<-hau,EH,<-dv,kQ,dv,show m*2+(n-i)*2=(n+m-i)*2 by omega]
 have hN2:w.heap.size=N:=hN.symm;have hG2:grownCap w (n+m) cap 114=Gc:=hGc.symm;rw [hG2,<-hZs,show vs.take (i*2)++om (n+m-i)++om (Gc-(n+m))=vs.take (i*2)++Zs by rw [hZs,aO],hN2,<-hW2,<-hW3];have hG63:Gc<=9223372036854775807:=by
  have:=yn w (n+m) cap 114 (by unfold maxLen; omega);rw [<-hGc] at this;unfold maxLen at this;omega
 have hGi:¬(Gc=i):=by omega
 have hGim:¬(Gc=i+m):=by omega
 have hci:¬(cap=i):=by omega
 have hw1:IntKind.i64.wrap ((i:Int)+(m:Int))=(i:Int)+(m:Int):=by rw [Ba]; omega
 have hb1:(0:Int)<=(i:Int)+(m:Int):=by omega
 have hin:i<=n:=by omega
 have htn:((i:Int)+(m:Int)).toNat=i+m:=by omega
 have hb3:(i:Int)<=(n:Int):=by omega
 have hz1:¬((m:Int)=0):=by omega
 have hz2:¬((i:Int)=(n:Int)):=by omega
 have hz5:(cap:Int)<(n:Int)+(m:Int):=by omega
 have mixed:Tryz.prog.follows Departure.mixedOrders=true:=by kernel_rfl
 clear hkk hold hZs hZl hW2 hW3 r2N r2g r2v r3N r3g hN hN2 hG2 hGc ht hti hz0 hz3 hz4 h1 h2 hus hul hNg hNv hrow hrow2
 go_enter Tryz.func250,Tryz.ntmps250
 go_wp2_with (first
  | (at_builtin; refine Lib.wpList_append_run _ rfl _ _ _ _ rfl _ _ rfl rfl _ _ (hrz _) ?_)
  | (at_builtin; refine wpList_copy_runI _ rfl _ _ 46 46 rfl _ _ rfl rfl (hcpA _ _) ?_))
 go_region_law_o (refine step_copy_runI rfl _ _ 46 46 rfl (.slice (some ⟨N,(i+m)*2,none⟩) (n+m-(i+m)) (Gc-(i+m))) (.slice (some ⟨g,i*2,none⟩) (n-i) (cap-i)) (by simp [Act.eval,Act.put]) (by simp [Act.eval,Act.put]) (hcpB _ _ _) ?_)
 go_wp2
 go_ret
 exact ⟨rfl,by simp only [aO]⟩
section
variable {c c':Cx}{α:Type}{R:Rp α}
theorem _root_.Go.Lt.AR.take {vs:List Value}{xs:List α}(h:AR R c vs xs) (k:Nat):AR R c (vs.take (k*R.size)) (xs.take k):=fun i x hx=>by
 rw [aW] at hx;split at hx
 ·rename_i hik
  have hm:=jY (s:=R.size) hik;rw [iI,fB,cH (by omega)];exact h i x hx
 ·cases hx
theorem _root_.Go.Lt.AR.drop {vs:List Value}{xs:List α}(h:AR R c vs xs) (k:Nat):AR R c (vs.drop (k*R.size)) (xs.drop k):=fun i x hx=>by
 rw [bP] at hx;rw [dv,<-iH];exact h _ x hx
theorem _root_.Go.Lt.AR.more {vs ts:List Value}{xs:List α}(h:AR R c vs xs) (hl:xs.length*R.size<=vs.length):AR R c (vs++ts) xs:=fun i x hx=>by
 have hi:=(List.getElem?_eq_some_iff.1 hx).1;have hm:=jY (s:=R.size) hi;rw [jz (by omega)];exact h i x hx
theorem _root_.Go.Lt.AR.app {vs us:List Value}{xs ys:List α}(h:AR R c vs xs) (hl:vs.length=xs.length*R.size) (k:AR R c us ys):AR R c (vs++us) (xs++ys):=fun i x hx=>by
 rw [fU] at hx;split at hx
 ·rename_i hi
  have hm:=jY (s:=R.size) hi;rw [jz (by omega)];exact h i x hx
 ·rename_i hi
  rw [show i*R.size=vs.length+(i-xs.length)*R.size by rw [hl,<-iH]; congr 1; omega,<-dv,kQ];exact k _ x hx
theorem _root_.Go.Lt.AR.ones {vs:List Value}{xs:List α}(h:AR R c vs xs) (hp:0<R.size):∀v∈vs.take (xs.length*R.size),v.oneCell'=true:=fun v hv=>by
 obtain ⟨j,hj⟩:=List.mem_iff_getElem?.1 hv;rw [aW] at hj;split at hj
 ·rename_i hlt
  have hq:j / R.size<xs.length:=by rw [Nat.div_lt_iff_lt_mul hp]; exact hlt
  have hc:=h _ _ (ag hq);refine R.one hc v (List.mem_iff_getElem?.2 ⟨j % R.size,?_⟩);rw [aW,ae (Je _ hp),bP,Nat.mul_comm,Nat.div_add_mod];exact hj
 ·cases hj
end
def jZ (p0:List ab) (p1:Int) (p2:List ab):Option (List ab):=if 0<=p1/\p1<p0.length/\1<=p2.length/\p0.length+p2.length<=far then some (p0.take p1.toNat++p2++p0.drop p1.toNat) else none
theorem _root_.Go.Lt.OA.some {c:Cx}{α:Type}{R:Rp α}{v:Value}{vs:List Value}{xs:List α}(h:OA R c v vs xs) (hn:1<=xs.length):∃g cap,v= .slice (some ⟨g,0,none⟩) xs.length cap/\xs.length<=cap/\cap<=maxLen/\cap*R.size<=vs.length/\AR R c vs xs:=by
 rcases h.2.1 with ⟨_,rfl⟩|⟨g,cap,h1,h2,h3,h4⟩
 ·simp at hn
 ·exact ⟨g,cap,h1,h2,h3,h4,h.2.2⟩
theorem vq {c0:Cx}{G:Gm}{F:List En}{v0 v2:Value}{u0 u2:List Value}(p0:List ab) (p1:Int) (p2:List ab) (O0:Own c0 G (es true ah v0 114 u0 p0::es true ah v2 114 u2 p2::F)) (h0:OA ah c0 v0 u0 p0) (h2:OA ah c0 v2 u2 p2){r:List ab}(H:jZ p0 p1 p2=some r): Calls Tryz.prog 250 #[v0,.int .i64 p1,v2] c0.w (aR c0 fun c v=>∃y1:Value,∃y2:List Value,Own c G (es true ah y1 114 y2 r::F)/\v=y1/\OA ah c y1 y2 r):=by
 unfold jZ at H;split at H
 ·rename_i hc;obtain ⟨hc1,hc2,hc3,hc4⟩:=hc;obtain ⟨i,rfl⟩:∃i:Nat,p1=(i:Int):=⟨p1.toNat,by omega⟩;rw [ce] at H;obtain rfl:=bj H;obtain ⟨g,cap,rfl,a1,a2,a3,a4⟩:=h0.some (by omega);obtain ⟨vb,vc,rfl,b1,b2,b3,b4⟩:=h2.some hc3;have hsz:ah.size=2:=rfl;have hon0:=O0.on 0 rfl g rfl;have hon2:=O0.on 1 rfl vb rfl;have hne:vb≠g:=fun e=>O0.m.2 (.inl 0) (.inl 1) _ _ rfl rfl (by simp) g rfl (by rw [<-e]; rfl);have o0:=a4.ones (by decide);have o2:=b4.ones (by decide);rw [hsz] at o0 o2 a3 b3;unfold maxLen at a2 b2;unfold far at hc4;have ht0:(u0.take (i*2)).length=i*2:=by rw [ay]; omega
  have ht2:(u2.take (p2.length*2)).length=p2.length*2:=by rw [ay]; omega
  have htl:((u0.drop (i*2)).take ((p0.length-i)*2)).length=(p0.length-i)*2:=by rw [ay,bB]; omega
  have hus:∀(j:Nat) (v:Value),(u2.take (p2.length*2))[j]? = some v->u2[j]? = some v:=fun j v hj=>by
   rw [aW] at hj;split at hj
   ·exact hj
   ·cases hj
  have hAR:∀(c:Cx) (ts:List Value),c0.le c->AR ah c (u0.take (i*2)++u2.take (p2.length*2)++(u0.drop (i*2)).take ((p0.length-i)*2)++ts) (p0.take i++p2++p0.drop i):=fun c ts hle=>by
   have k0:AR ah c (u0.take (i*2)) (p0.take i):=(a4.take i).mono hle;have k2:AR ah c (u2.take (p2.length*2)) p2:=by
    have:=(b4.take p2.length).mono hle;rwa [aC (az p2.length)] at this
   have k1:AR ah c ((u0.drop (i*2)).take ((p0.length-i)*2)) (p0.drop i):=by
    have:=((a4.drop i).take (p0.length-i)).mono hle;rwa [aC (l:=p0.drop i) (by rw [bB]; exact az _)] at this
   refine AR.more (AR.app (AR.app k0 ?_ k2) ?_ k1) ?_
   ·rw [ht0,ay,cH (by omega),hsz]
   ·rw [aA,ht0,ht2,aA,ay,cH (by omega),hsz,iH]
   ·simp only [aA];rw [ht0,ht2,htl,ay,bB,cH (by omega),hsz];omega
  have hrl:(p0.take i++p2++p0.drop i).length=p0.length+p2.length:=by
   rw [aA,aA,ay,bB];omega
  rcases aQ cap (p0.length+p2.length) with hg|hg
  ·refine (DZ (vs:=u0) (us:=u2.take (p2.length*2)) (vs2:=u2) hon0.1 hon2.1 (by omega) (by omega) a1 hg a3 (by omega) ht2 hus o0 o2).mono ?_;rintro e w' ⟨rfl,rfl⟩;obtain ⟨Gc,hGc⟩:∃Gc,Gc=grownCap c0.w (p0.length+p2.length) cap 114:=⟨_,rfl⟩;have hGe:p0.length+p2.length<=Gc:=by rw [hGc]; exact Iu _ _ _ _
   have hGm:Gc<=maxLen:=by rw [hGc]; exact yn _ _ _ _ (by unfold maxLen; omega)
   rw [<-hGc];obtain ⟨Zs,hZs⟩:∃Zs,Zs=om (p0.length+p2.length-i)++om (Gc-(p0.length+p2.length)):=⟨_,rfl⟩;have hZl:Zs.length=(p0.length+p2.length-i)*2+(Gc-(p0.length+p2.length))*2:=by rw [hZs,aA,oZ,oZ]
   rw [aO (u0.take (i*2)),<-hZs];have hd:=Cx.drew_le c0;obtain ⟨c1,e1,e2,e3,e4,e5⟩:=Cx.new ⟨c0.w.drew,c0.A,c0.t⟩ (u0.take (i*2)++Zs) 114 0;have O1:=Own.cons (O0.keep hd) e2 (fun _=>id) (e:=⟨.slice (some ⟨c0.w.heap.size,0,none⟩) (p0.length+p2.length) Gc,114,u0.take (i*2)++Zs,0⟩) (fun b hb=>by
    simp only [blk,aV] at hb;subst hb;exact ⟨e3,e5⟩) (fun b hb=>by
    simp only [blk,aV] at hb;subst hb;exact az _)
   obtain ⟨c2,f1,f2,f3,f4⟩:=Cx.row (m:=u0.take (i*2)++u2.take (p2.length*2)++Zs.drop (p2.length*2)) e3 0 e5 (fun o ho=>by omega) 0 (az _);have O2:=Own.set O1 0 rfl f2 (fun b hb=>by rw [hb]; rfl) (e':=⟨.slice (some ⟨c0.w.heap.size,0,none⟩) (p0.length+p2.length) Gc,114,u0.take (i*2)++u2.take (p2.length*2)++Zs.drop (p2.length*2),0⟩) (fun b hb=>by
    simp only [blk,aV] at hb;subst hb;exact ⟨f3,f4⟩) (fun b hb=> .inl hb)
   have hd2:=Cx.drew_le c2;obtain ⟨c3,g1,g2,g3,g4⟩:=Cx.row (c:=⟨c2.w.drew,c2.A,c2.t⟩) (m:=u0.take (i*2)++u2.take (p2.length*2)++(u0.drop (i*2)).take ((p0.length-i)*2)++Zs.drop ((p0.length+p2.length-i)*2)) (T:=114) (b:=c0.w.heap.size) f3 0 f4 (fun o ho=>by omega) 0 (az _);have O3:=Own.set (O2.keep hd2) 0 rfl g2 (fun b hb=>by rw [hb]; rfl) (e':=es true ah (.slice (some ⟨c0.w.heap.size,0,none⟩) (p0.length+p2.length) Gc) 114 (u0.take (i*2)++u2.take (p2.length*2)++(u0.drop (i*2)).take ((p0.length-i)*2)++Zs.drop ((p0.length+p2.length-i)*2)) (p0.take i++p2++p0.drop i)) (fun b hb=>by
    simp only [es,blk,aV] at hb;subst hb;exact ⟨g3,g4⟩) (fun b hb=> .inl hb)
   have hle:=hd.le.trans (e2.le.trans (f2.le.trans (hd2.le.trans g2.le)));have O4:=O3.selD 3 [0] (by kernel_rfl) (by kernel_rfl);refine ⟨_,c3,rfl,by rw [g1]; show _=(c2.w.drew).setRow _ _; rw [f1,e1]; rfl,hle,_,_,O4,rfl,by decide,.inr ⟨_,Gc,by rw [hrl],by rw [hrl]; exact hGe,hGm,?_⟩,hAR c3 _ hle⟩;rw [hsz,aA,aA,aA,ht0,ht2,htl,bB,hZl];omega
  ·refine (CA (vs:=u0) (us:=u2.take (p2.length*2)) (vs2:=u2) hon0.1 hon2.1 (by omega) (by omega) hg a3 a2 hne ht2 hus o0 o2).mono ?_;rintro e w' ⟨rfl,rfl⟩;have hd:=Cx.drew_le c0;obtain ⟨c2,f1,f2,f3,f4⟩:=Cx.row (c:=⟨c0.w.drew,c0.A,c0.t⟩) (l:=u0) (T:=114) (b:=g) (m:=u0.take ((i+p2.length)*2)++(u0.drop (i*2)).take ((p0.length-i)*2)++u0.drop ((p0.length+p2.length)*2)) hon0.1 0 hon0.2 (fun o ho=>by omega) 0 (az _);have O2:=Own.set (O0.keep hd) 0 rfl f2 (fun b hb=>by rw [hb]; rfl) (e':=⟨.slice (some ⟨g,0,none⟩) p0.length cap,114,u0.take ((i+p2.length)*2)++(u0.drop (i*2)).take ((p0.length-i)*2)++u0.drop ((p0.length+p2.length)*2),0⟩) (fun b hb=>by
    simp only [blk,aV] at hb;subst hb;exact ⟨f3,f4⟩) (fun b hb=> .inl hb)
   obtain ⟨c3,g1,g2,g3,g4⟩:=Cx.row (c:=c2) (m:=u0.take (i*2)++u2.take (p2.length*2)++(u0.drop (i*2)).take ((p0.length-i)*2)++u0.drop ((p0.length+p2.length)*2)) (T:=114) (b:=g) f3 0 f4 (fun o ho=>by omega) 0 (az _);have O3:=Own.set O2 0 rfl g2 (fun b hb=>by rw [hb]; rfl) (e':=es true ah (.slice (some ⟨g,0,none⟩) (p0.length+p2.length) cap) 114 (u0.take (i*2)++u2.take (p2.length*2)++(u0.drop (i*2)).take ((p0.length-i)*2)++u0.drop ((p0.length+p2.length)*2)) (p0.take i++p2++p0.drop i)) (fun b hb=>by
    simp only [es,blk,aV] at hb;subst hb;exact ⟨g3,g4⟩) (fun b hb=> .inl hb)
   have hle:=hd.le.trans (f2.le.trans g2.le);have O4:=O3.selD 2 [0] (by kernel_rfl) (by kernel_rfl);refine ⟨_,c3,rfl,by rw [g1,f1],hle,_,_,O4,rfl,by decide,.inr ⟨g,cap,by rw [hrl],by rw [hrl]; exact hg,by unfold maxLen; exact a2,?_⟩,hAR c3 _ hle⟩;rw [hsz,aA,aA,aA,ht0,ht2,htl,bB];omega
 ·cases H
theorem D0 (k:Nat):∀v∈om k,v.oneCell'=true:=fun v hv=>by
 unfold om Builtin.zeroCells at hv;simp only [Jy,List.mem_map] at hv;obtain ⟨a,_,rfl⟩:=hv;have h2:(Value.agg #[.int .i64 0,.slice none 0 0]).cells= #[.int .i64 0,.slice none 0 0]:=rfl;rw [h2];show (#[Value.int .i64 0,Value.slice none 0 0][a % 2]!).oneCell'=true;rcases Nat.mod_two_eq_zero_or_one a with h|h <;> rw [h] <;> rfl
theorem tB {P:Program}{ops:Array Oper}{o:Oper}{a:Act}{w:World}{K:Act->World->Prop}{Q:Exit->Act->World->Prop}{E:Prop}
  (hg:o.guard=none) (d x:Operand) (dT sT:TypeId) (hop:o.op=Op.call { callee:=Callee.builtin Builtin.append,args:= #[d,x],argTypes:= #[dT,sT]})
  (v u:Value) (hd:a.eval d=v) (hx:a.eval x=u){v':Value}{w':World}(hr:(Builtin.append_ #[dT,sT] o.type #[v,u]).run P w= .ok v' w') (hK:K (a.put o.dst v') w'):
  if Region.wanted o (yielded ops a.tmps)=true then Oper.wp P o a w K Q else E:=by
 have hw:Region.wanted o (yielded ops a.tmps)=true:=by simp [Region.wanted,hg]
 rw [ae hw];unfold Oper.wp;simp [execOp,hop,resolve,invoke,builtin,hd,hx,hr,Result.andThen];exact hK
theorem tw {P:Program}(w:World){ops:Array Oper}{rest:List Oper}{o:Oper}{a:Act}{Q:Exit->Act->World->Prop}(hgd:o.guard=none) (d:Operand) (t:TypeId)
  (ho:o.op= .call { callee:= .builtin .clear,args:= #[d],argTypes:= #[t]}) (v:Value) (hd:a.eval d=v){v':Value}{w':World}
  (hr:(Builtin.clear_ #[t] o.type #[v]).run P w= .ok v' w') (h:wpList P ops Q rest (a.put o.dst v') w'):wpList P ops Q (o::rest) a w:=
 wpList_plain hgd fun _ hK=>by
  unfold Oper.wp execOp;simp only [ho,resolve,invoke,builtin,fG,qM,oe,List.map_toArray,tu,HE,hd,hr];exact hK _ _ h
theorem CI {Q:Program}(w:World) (t ty E:TypeId) (g o k c:Nat) (z:Value) (vs:List Value) (T:TypeId) (hk:k≠0)
  (hu:Q.underlying t=some (.slice E)) (hz:∀w,(zeroValue E).run Q w= .ok z w) (hrow:w.heap[g]? = some (.cells vs.toArray T (0,0))) (hl:o+(Builtin.zeroCells z.cells k).toList.length<=vs.length) (h1:∀v∈(Builtin.zeroCells z.cells k).toList,v.oneCell'=true):
  (Builtin.clear_ #[t] ty #[.slice (some ⟨g,o,none⟩) k c]).run Q w= .ok (.tuple #[]) (w.setRow g (vs.take o++(Builtin.zeroCells z.cells k).toList++vs.drop (o+(Builtin.zeroCells z.cells k).toList.length)).toArray):=by
 have hst:=yY Q g o T (Builtin.zeroCells z.cells k).toList 0 vs.toArray w hrow (by simpa using hl) h1;simp only [qO] at hst
 cases k with
 | zero=>exact absurd rfl hk
 | succ k=>
  simp [Builtin.clear_,bR hu,hz,hst]
set_option maxHeartbeats 4000000 in
set_option maxRecDepth 100000 in
theorem FK {w:World}{g n cap i j:Nat}{vs:List Value}(hrow:w.heap[g]? = some (.cells vs.toArray 114 (0,0)))
  (hij:i<j) (hjn:j<=n) (hnc:n<=cap) (hcap:cap*2<=vs.length) (hc63:cap<=9223372036854775807) (h1:∀v∈vs.take (n*2),v.oneCell'=true):
  Calls Tryz.prog 253 #[.slice (some ⟨g,0,none⟩) n cap,.int .i64 i,.int .i64 j] w fun e w'=>
   e= .returned (.slice (some ⟨g,0,none⟩) (i+(n-j)) cap)/\w'=(w.drew.setRow g (vs.take (i*2)++(vs.drop (j*2)).take ((n-j)*2)++vs.drop ((i+(n-j))*2)).toArray).setRow g
    (vs.take (i*2)++(vs.drop (j*2)).take ((n-j)*2)++om (j-i)++vs.drop (n*2)).toArray:=by
 obtain ⟨ti,hti,hzz⟩:=Option.map_eq_some_iff.1 (show (Tryz.prog.info? 114).map (fun i=>i.size)=some 2 by kernel_rfl);have hul:((vs.drop (j*2)).take ((n-j)*2)).length=(n-j)*2:=by rw [ay,bB]; omega
 have ht:(vs.take (i*2)).length=i*2:=by rw [ay]; omega
 obtain ⟨W1,hW1⟩:∃W1,W1=w.drew.setRow g (vs.take (i*2)++(vs.drop (j*2)).take ((n-j)*2)++vs.drop ((i+(n-j))*2)).toArray:=⟨_,rfl⟩;have hap:∀ty a k,(∀x v,((vs.drop (j*2)).take ((n-j)*2))[x]? = some v->w.drew.cell? (a.add x)=some v)->
   (Builtin.append_ #[46,46] ty #[.slice (some ⟨g,0,none⟩) i cap,.slice (some a) (n-j) k]).run Tryz.prog w.drew= .ok (.slice (some ⟨g,0,none⟩) (i+(n-j)) cap) W1:=fun ty a k hx=>by
  have:=Jz (P:=Tryz.prog) w.drew 46 ty 114 ti Tryz.underlying46 hti g i cap vs.toArray hrow a (n-j) k ((vs.drop (j*2)).take ((n-j)*2)) (by rw [hul,hzz]) hx (fun v hv=>h1 v (by rw [show (n-j)*2=n*2-j*2 by omega,<-iI] at hv; exact fS hv)) (by omega) (by rw [hzz,hul]; simp; omega);rw [this,hW1,hzz,hul];simp only [List.toList_toArray,sR];rw [show i*2+(n-j)*2=(i+(n-j))*2 by omega]
 have hr1:W1.heap[g]? = some (.cells (vs.take (i*2)++(vs.drop (j*2)).take ((n-j)*2)++vs.drop ((i+(n-j))*2)).toArray 114 (0,0)):=by
  rw [hW1];exact Bf w.drew g vs.toArray _ 114 (0,0) hrow
 have hau:(vs.take (i*2)++(vs.drop (j*2)).take ((n-j)*2)).length=(i+(n-j))*2:=by rw [aA,ht,hul]; omega
 have hcl:∀ty c,(Builtin.clear_ #[46] ty #[.slice (some ⟨g,(i+(n-j))*2,none⟩) (n-(i+(n-j))) c]).run Tryz.prog W1= .ok (.tuple #[]) (W1.setRow g (vs.take (i*2)++(vs.drop (j*2)).take ((n-j)*2)++om (j-i)++vs.drop (n*2)).toArray):=fun ty c=>by
  have hzl:=oZ (j-i);unfold om at hzl;have:=CI (Q:=Tryz.prog) W1 46 ty 114 g ((i+(n-j))*2) (j-i) c (Value.agg #[.int .i64 0,.slice none 0 0]) _ 114 (by omega) Tryz.underlying46 (fun w=>by kernel_rfl) hr1 (by rw [hzl,aA,hau,bB]; omega) (fun v hv=>by
   exact D0 _ v hv)
  rw [hzl] at this;rw [show n-(i+(n-j))=j-i by omega,this]
  congr 3
  rw [<-hau,EH,<-dv,kQ,dv,hau,show (i+(n-j))*2+(j-i)*2=n*2 by omega];rfl
 have hcell:∀(x:Nat) (v:Value),((vs.drop (j*2)).take ((n-j)*2))[x]? = some v->w.drew.cell? ((⟨g,j*2,none⟩:Addr).add x)=some v:=fun x v hx=>by
  rw [fI];rw [aW] at hx;split at hx
  ·rw [bP] at hx;rw [gL w.drew g (j*2+x) vs.toArray 114 (0,0) hrow,cg];exact hx
  ·cases hx
 have hnil:cap=j->∀(x:Nat) (v:Value),((vs.drop (j*2)).take ((n-j)*2))[x]? = some v->w.drew.cell? ((⟨g,0,none⟩:Addr).add x)=some v:=fun e x v hx=>by
  rw [show (n-j)*2=0 by omega,eK] at hx;cases hx
 have hWW:cap=j->W1=w.drew:=fun e=>by
  rw [hW1,show n-j=0 by omega,uS,eK,eM,qO,gZ];exact setRow_self w.drew g vs.toArray _ (0,0) hrow
 have hap1:=fun ty k=>hap ty ⟨g,j*2,none⟩ k hcell;have hap2:=fun (e:cap=j) ty k=>hap ty ⟨g,0,none⟩ k (hnil e);rw [<-hW1];have hmixed:Tryz.prog.follows Departure.mixedOrders=true:=by kernel_rfl
 have z1:¬((i:Int)=(j:Int)):=by omega
 have z2:(0:Int)<=(i:Int):=by omega
 have z3:(i:Int)<=(j:Int):=by omega
 have z4:(j:Int)<=(n:Int):=by omega
 have z5:¬(cap=i+(n-j)):=by omega
 have z6:i<=cap:=by omega
 have z7:j<=cap:=by omega
 have z8:i+(n-j)<=n:=by omega
 have z9:n<=cap:=hnc;have z10:¬(n=i):=by omega
 clear hW1 hul ht hr1 hau hap hcell hnil h1 hti hzz hcap hrow
 by_cases hcj:cap=j
 ·have hap3:=hap2 hcj
  clear hap1 hap2 hWW
  subst hcj;obtain rfl:n=cap:=by omega
  simp only [oh,qO,uS,eK,eM] at hap3 hcl z5|-
  go_enter Tryz.func253,Tryz.ntmps253
  go_wp2_with fail
  go_region_law_o (refine tB rfl (.tmp 22) (.tmp 25) 46 46 rfl (.slice (some ⟨g,0,none⟩) i n) (.slice (some ⟨g,0,none⟩) 0 0) (by simp [Act.eval,Act.put]) (by simp [Act.eval,Act.put]) (hap3 _ _) ?_)
  go_wp2_with (at_builtin; refine tw _ rfl _ 46 rfl _ rfl (hcl _ _) ?_)
  go_ret
  exact ⟨rfl,by simp only [aO]⟩
 ·clear hap2 hWW
  go_enter Tryz.func253,Tryz.ntmps253
  go_wp2_with fail
  go_region_law_o (refine tB rfl (.tmp 22) (.tmp 25) 46 46 rfl (.slice (some ⟨g,0,none⟩) i cap) (.slice (some ⟨g,j*2,none⟩) (n-j) (cap-j)) (by simp [Act.eval,Act.put]) (by simp [Act.eval,Act.put]) (hap1 _ _) ?_)
  go_wp2_with (at_builtin; refine tw _ rfl _ 46 rfl _ rfl (hcl _ _) ?_)
  go_ret
  exact ⟨rfl,by simp only [aO]⟩
def ka (p0:List ab) (p1 p2:Int):Option (List ab):=if 0<=p1/\p1<p2/\p2<=p0.length then some (p0.take p1.toNat++p0.drop p2.toNat) else none
theorem vt {c0:Cx}{G:Gm}{F:List En}{v0:Value}{u0:List Value}(p0:List ab) (p1 p2:Int) (O0:Own c0 G (es true ah v0 114 u0 p0::F)) (h0:OA ah c0 v0 u0 p0){r:List ab}(H:ka p0 p1 p2=some r): Calls Tryz.prog 253 #[v0,.int .i64 p1,.int .i64 p2] c0.w (aR c0 fun c v=>∃y1:Value,∃y2:List Value,Own c G (es true ah y1 114 y2 r::F)/\v=y1/\OA ah c y1 y2 r):=by
 unfold ka at H;split at H
 ·rename_i hc;obtain ⟨hc1,hc2,hc3⟩:=hc;obtain ⟨i,rfl⟩:∃i:Nat,p1=(i:Int):=⟨p1.toNat,by omega⟩;obtain ⟨j,rfl⟩:∃j:Nat,p2=(j:Int):=⟨p2.toNat,by omega⟩;rw [ce,ce] at H;obtain rfl:=bj H;obtain ⟨g,cap,rfl,a1,a2,a3,a4⟩:=h0.some (by omega);have hsz:ah.size=2:=rfl;have hon0:=O0.on 0 rfl g rfl;have o0:=a4.ones (by decide);rw [hsz] at o0 a3;unfold maxLen at a2;have ht0:(u0.take (i*2)).length=i*2:=by rw [ay]; omega
  have htl:((u0.drop (j*2)).take ((p0.length-j)*2)).length=(p0.length-j)*2:=by rw [ay,bB]; omega
  have hrl:(p0.take i++p0.drop j).length=i+(p0.length-j):=by
   rw [aA,ay,bB];omega
  have hAR:∀(c:Cx) (ts:List Value),c0.le c->AR ah c (u0.take (i*2)++(u0.drop (j*2)).take ((p0.length-j)*2)++ts) (p0.take i++p0.drop j):=fun c ts hle=>by
   have k0:AR ah c (u0.take (i*2)) (p0.take i):=(a4.take i).mono hle;have k1:AR ah c ((u0.drop (j*2)).take ((p0.length-j)*2)) (p0.drop j):=by
    have:=((a4.drop j).take (p0.length-j)).mono hle;rwa [aC (l:=p0.drop j) (by rw [bB]; exact az _)] at this
   refine AR.more (AR.app k0 ?_ k1) ?_
   ·rw [ht0,ay,cH (by omega),hsz]
   ·rw [hrl,hsz,aA,ht0,htl];omega
  refine (FK (vs:=u0) hon0.1 (by omega) (by omega) a1 a3 (by omega) o0).mono ?_;rintro e w' ⟨rfl,rfl⟩;have hd:=Cx.drew_le c0;obtain ⟨c2,f1,f2,f3,f4⟩:=Cx.row (c:=⟨c0.w.drew,c0.A,c0.t⟩) (l:=u0) (T:=114) (b:=g) (m:=u0.take (i*2)++(u0.drop (j*2)).take ((p0.length-j)*2)++u0.drop ((i+(p0.length-j))*2)) hon0.1 0 hon0.2 (fun o ho=>by omega) 0 (az _);have O2:=Own.set (O0.keep hd) 0 rfl f2 (fun b hb=>by rw [hb]; rfl) (e':=⟨.slice (some ⟨g,0,none⟩) p0.length cap,114,u0.take (i*2)++(u0.drop (j*2)).take ((p0.length-j)*2)++u0.drop ((i+(p0.length-j))*2),0⟩) (fun b hb=>by
   simp only [blk,aV] at hb;subst hb;exact ⟨f3,f4⟩) (fun b hb=> .inl hb)
  obtain ⟨c3,g1,g2,g3,g4⟩:=Cx.row (c:=c2) (m:=u0.take (i*2)++(u0.drop (j*2)).take ((p0.length-j)*2)++om (j-i)++u0.drop (p0.length*2)) (T:=114) (b:=g) f3 0 f4 (fun o ho=>by omega) 0 (az _);have O3:=Own.set O2 0 rfl g2 (fun b hb=>by rw [hb]; rfl) (e':=es true ah (.slice (some ⟨g,0,none⟩) (i+(p0.length-j)) cap) 114 (u0.take (i*2)++(u0.drop (j*2)).take ((p0.length-j)*2)++om (j-i)++u0.drop (p0.length*2)) (p0.take i++p0.drop j)) (fun b hb=>by
   simp only [es,blk,aV] at hb;subst hb;exact ⟨g3,g4⟩) (fun b hb=> .inl hb)
  have hle:=hd.le.trans (f2.le.trans g2.le);refine ⟨_,c3,rfl,by rw [g1,f1],hle,_,_,O3,rfl,by decide,.inr ⟨g,cap,by rw [hrl],by rw [hrl]; omega,by unfold maxLen; exact a2,?_⟩,?_⟩
  ·rw [hsz,aA,aA,aA,ht0,htl,oZ,bB];omega
  ·rw [aO];exact hAR c3 _ hle
 ·cases H
end Go.Proofs.YtclmdpamofdoiaaGreatDoor
namespace Go.Proofs.YtclmdpamofdoiaaGreatDoor
open Go Go.Lt
set_option maxRecDepth 10000
set_option linter.unusedVariables false
attribute [local irreducible] W WL AC
open Tryz
variable {c0:Cx}{G:Gm}{F:List En}{sg:Sto}{v1 v2 v3 v4 v5 v6 v7 v8 v9 v10 v11 v12 v13 v14 v15 v16 v17 v18 v19 v20 v21 v22 v23 v24 v25 v26 v27 v28 v29 v30 v31 v32 v33 v34 v35 v36 v37 v38 v39 v40 v41 v42 v43 v44 v45 v46 v47 v48 v49 v50 v51 v52 v53 v54 v55 v56 v57 v58 v59 v60:Value}
def jC (p0:List ab) (p1:Int) (q0_0:Int):Option (List ab):=
 (eI p1).bind fun c=>
 (jZ p0 q0_0 c).bind fun d=>
 (slc d 0 (p0.length:Int)).bind fun a=>
 ((idx a (w64 ((p0.length:Int)-1))).bind fun e=>
 if (e.Kind==2)=true then
 (idx a (w64 ((p0.length:Int)-1))).bind fun g=>
 (pJ a (w64 ((p0.length:Int)-1)) (⟨0,([]:List Int)⟩:ab)).bind fun b=>
 some (b)
 else
 some (a)).bind fun f=>
 some f
theorem uL {e:Value}{q:List Value}{p:Nat}(b:List ab) (o:Int) (q0_0:Int) (O0:Own c0 G (es true ah e 114 q b::F)){r:List ab}(S:OA ah c0 e q b) (m2:∀j u,([I q0_0]:List Value)[j]? = some u->Im c0 p (0+j) u) (H:jC b o q0_0=some r): Calls prog 249 #[e,I o,Q p] c0.w (aR c0 fun c v=>∃t y2,Own c G (es true ah t 114 y2 r::F)/\v=t/\OA ah c t y2 r):=by
 unfold jC at H;refine en func249 rfl rfl (sr (va (Y) (wln (sr (va (e) (vx (lnO 3 cy S) (va (I (b.length:Int)) (wln (W.seq (rD [] (Kp G0 []) O0 ?_))))))))));intro c3 l3 O4;have p5:Kp G0 [] c3:=Kp.nil0;refine ta 0 (e) (tx 1 (fun c' i0=>l1 u_3 ((mm m2) 0 _ rfl)) (ta 2 (I o) (ta 5 (I (b.length:Int)) (bn H fun s h6 H=>o1 3 (gc 3 (km O4 o h6) ?_)))));rintro v7 M g1 ⟨_,u8,y,rfl,h9⟩;have k0:Kp G0 [] M:=Kp.nil0;refine ⟨.inr k0,?_⟩;have z:=y.sD 2 [1,0];refine bn H fun b1 U H=>o1 4 (gc 4 (vq b q0_0 s z S.m h9 U) ?_);rintro v19 h i1 ⟨_,m0,A,rfl,X⟩;have l0:Kp G0 [] h:=Kp.nil0;refine ⟨.inr l0,bn H fun c1 Z H=>?_⟩;obtain ⟨v30,a0,g,d⟩:=Own.cutH (k':= .i64) 0 A rfl cy X (by kernel_rfl) Z;refine AC.take 6 (v30) rfl (by kernel_rfl) (by kernel_rfl) (fun c' i0=>(rx (by kernel_rfl) (a0 _))) (ta 7 (v30) (dn (nrm (bn H fun n a x=>W.seqJ (Jn h fun c l=>∃v36 f,Own c G (es true ah v36 114 f n::F)/\l= [(0,v36)]/\OA ah c v36 f n) ?_ ?_))))
 ·refine sr (va (v30) (va (I (b.length:Int)) (va (I (w64 ((b.length:Int)-1))) (bn a fun k i a=>vx (ixO cy d i) (va (Qo (sb v30) ((w64 ((b.length:Int)-1)).toNat*2)) ?_)))));obtain ⟨y0,b0,j0⟩:=OA.at d i;obtain ⟨v42,rfl,f1⟩:=b0;refine vr (I k.Kind) (rx (by kernel_rfl) (lI u_3 rfl (g.on 0 rfl) (d.blk i) (at1 (j:=0) j0 rfl))) (va (B (k.Kind==2)) (wln (cn a (fun d0 a=>?_) (fun d0 a=>?_))))
  ·refine W.region (va (v30) (va (I (b.length:Int)) (va (I (w64 ((b.length:Int)-1))) (va (.agg #[I 0,Y]) (bn a fun d1 e0 a=>vx (ixO cy d e0) (bn a fun a1 f0 a=>md (Own.stW (R:=ah) (T:=114) (us:=[I 0,Y]) (x':=(⟨0,([]:List Int)⟩:ab)) (u:= .agg #[I 0,Y]) 0 g (by kernel_rfl) rfl d f0 rfl (by kernel_rfl) ⟨rfl,rfl,trivial⟩ rfl ⟨(Y),rfl,(Sl.nl _ _)⟩) ?_))))));rintro N j1 ⟨o0,D,g0⟩;refine wln ?_;cases a;exact jn N ⟨v30,o0,D,rfl,g0⟩
  refine W.skip (nrm ?_);cases a;exact jn h ⟨v30,m0,g,rfl,d⟩
 rintro e_ w_ ⟨P,e1,_,rfl,k1,rfl,v36,f,E,rfl,h0⟩;refine sr (vv (v36) (wln (W.ret ?_)));cases x;exact r1 (qq P ⟨v36,f,E,rfl,h0⟩)
def jP (p0:List ab) (p1:Int):Option (List ab):=
 (bT (decide (p1<(p0.length:Int))) ((idx p0 p1).bind fun d=>
 some (d.Kind==3))).bind fun c=>
 if c=true then
 (idx p0 (w64 (p1-1))).bind fun e=>
 (pJ p0 (w64 (p1-1)) (⟨0,([]:List Int)⟩:ab)).bind fun a=>
 (idx a p1).bind fun f=>
 (pJ a p1 (⟨0,([]:List Int)⟩:ab)).bind fun b=>
 some b
 else
 some p0
theorem pU {a:Value}{e:List Value}(f:List ab) (b:Int) (o:Own c0 G (es true ah a 114 e f::F)){r:List ab}(d:OA ah c0 a e f) (H:jP f b=some r): Calls prog 252 #[a,I b] c0.w (aR c0 fun c v=>∃U,Own c G (es true ah a 114 U r::F)/\v= .tuple #[]/\OA ah c a U r):=by
 unfold jP at H;refine en func252 rfl rfl (W.seq (bn H fun y E H=>W.join (Jn c0 fun c l=>Own c G (es true ah a 114 e f::F)/\l= [(0,a),(1,I b),(15,B y)]) ?_ ?_))
 ·clear H;refine W.region (va (I b) (va (a) (vx (lnO 3 cy d) (va (B (decide (b<(f.length:Int)))) ?_))));rcases bo (decide (b<(f.length:Int))) with g|g
  ·have n:=anT g E;refine vb g (wa (a) (wa (I b) (wn (bn n fun h p n=>vx (ixO cy d p) (wa (Qo (sb a) (b.toNat*2)) (wn ?_))))));obtain ⟨l0,X,Z⟩:=OA.at d p;obtain ⟨v9,rfl,h0⟩:=X;refine vr (I h.Kind) (rx (by kernel_rfl) (lI u_3 rfl (o.on 0 rfl) (d.blk p) (at1 (j:=0) Z rfl))) (wa (B (h.Kind==3)) ?_);cases n;exact va (B (h.Kind==3)) (wln (jn c0 ⟨o,rfl⟩))
  obtain rfl:=anF g E;exact vb g (pz (pz (pz (va (B false) (wln (jn c0 ⟨o,rfl⟩))))))
 rintro e_ w_ ⟨t,g0,_,rfl,i0,rfl,i,rfl⟩;refine nrm (cn H (fun z H=>?_) (fun z H=>?_))
 ·refine W.region (va (a) (va (I b) (va (I (w64 (b-1))) (va (a) (va (I b) (vv (.agg #[I 0,Y]) (bn H fun d0 A H=>vx (ixO cy d.m A) (bn H fun a0 D H=>md (Own.stW (R:=ah) (T:=114) (us:=[I 0,Y]) (x':=(⟨0,([]:List Int)⟩:ab)) (u:= .agg #[I 0,Y]) 0 i (by kernel_rfl) rfl d.m D rfl (by kernel_rfl) ⟨rfl,rfl,trivial⟩ rfl ⟨(Y),rfl,(Sl.nl _ _)⟩) ?_))))))));rintro f0 j0 ⟨m0,q,k⟩;refine bn H fun e0 M H=>vx (ixO cy k M) (bn H fun b0 N H=>md (Own.stW (R:=ah) (T:=114) (us:=[I 0,Y]) (x':=(⟨0,([]:List Int)⟩:ab)) (u:= .agg #[I 0,Y]) 0 q (by kernel_rfl) rfl k N rfl (by kernel_rfl) ⟨rfl,rfl,trivial⟩ rfl ⟨(Y),rfl,(Sl.nl _ _)⟩) ?_);rintro x k0 ⟨S,s,P⟩;refine WL.nil ?_;cases H;exact n0 (qq x ⟨S,s,rfl,P⟩)
 refine W.skip ?_;cases H;exact n0 (qq t ⟨e,i,rfl,d.m⟩)
def ew (sg:Sto) (p0:Option Nat) (p1:Int) (p2:Int) (p3_0_0:Int):Option (Sto):=
 (bS sg p0).bind fun a=>
 (orE (decide (p1<0)) (some (decide (p1>=a)))).bind fun g=>
 (orE g (some (decide (p2<1)))).bind fun b=>
 if b=true then
 some sg
 else
 (eN sg p0).bind fun c=>
 (jP c p1).bind fun d=>
 (jC d (aB p2 (w64 (a-p1))) p3_0_0).bind fun e=>
 (ei sg p0 0 e).bind fun f=>
 some f.1
theorem nq {b3_0:Nat}(O0:Own c0 G F) (i:Rel c0 sg G) (hG:Gl [2,4] c0) (h:Option Nat) (a:Int) (d:Int) (p3_0_0:Int){r:Sto}(t:Pt 0 c0 v1 h) (m3:∀j u,([I p3_0_0]:List Value)[j]? = some u->Im c0 b3_0 (0+j) u) (H:ew sg h a d p3_0_0=some r): Calls prog 248 #[v1,I a,I d,.func (.func 249) #[] #[Q b3_0]] c0.w (aR c0 fun c v=>∃G_:Gm,Own c G_ (F)/\Rel c r G_/\v= .tuple #[]):=by
 unfold ew at H;refine en func248 rfl rfl (sr (va (v1) (bn H fun b h4 H=>cl (cK O0 i h t h4) ?_)));rintro v10 k l9 ⟨q,rfl⟩;refine va (I b) (wln (W.seq (W.seq (bn H fun w0 o H=>bn H fun s g H=>W.join (Jn k fun c l=>Own c G (F)/\l= [(0,v1),(1,I a),(2,I d),(3,.func (.func 249) #[] #[Q b3_0]),(8,I b),(22,B s)]) ?_ ?_))))
 ·clear H;refine W.region (va (I a) (va (B (decide (a<0))) ?_));rcases bo (decide (a<0)) with e|e
  ·obtain rfl:=orT e o;refine vb e (pz (ps (va (B true) ?_)));have p:true=true:=rfl;obtain rfl:=orT p g;exact vb p (pz (va (B true) (wln (jn k ⟨q,rfl⟩))))
  have D:=orF e o;refine vb e (wa (I a) (wa (I b) (wa (B (decide (a>=b))) ?_)));cases D;refine va (B (decide (a>=b))) ?_;rcases bo (decide (a>=b)) with f|f
  ·obtain rfl:=orT f g;exact vb f (pz (va (B true) (wln (jn k ⟨q,rfl⟩))))
  have E:=orF f g;refine vb f (wa (I d) (wa (B (decide (d<1))) ?_));cases E;exact va (B (decide (d<1))) (wln (jn k ⟨q,rfl⟩))
 rintro e_ w_ ⟨X,x0,_,rfl,z0,rfl,n,rfl⟩;refine nrm (cn H (fun a0 H=>?_) (fun a0 H=>?_))
 ·refine W.ret (thr ?_);cases H;exact r0 (qq X ⟨G,n,i.m,rfl⟩)
 refine W.skip (nrm (sr (va (v1) (bn H fun x b0 H=>cl (lH n i.m h t.m b0) ?_))));rintro v26 s0 a1 ⟨_,f1,M,rfl,d0⟩;refine va (v26) (wln (sr (va (v26) (va (I a) (bn H fun y e0 H=>cl (pU x a M d0 e0) ?_)))));rintro v44 t0 b1 ⟨g1,N,rfl,f0⟩;refine wln (W.region (va (v1) (va (.func (.func 249) #[] #[Q b3_0]) (va (v26) (va (I d) (va (I b) (va (I a) (va (I (w64 (b-a))) (va (I (aB d (w64 (b-a)))) (bn H fun z g0 H=>cl (uL y (aB d (w64 (b-a))) p3_0_0 N f0 (mm m3) g0) ?_))))))))));rintro v47 u0 c1 ⟨_,h1,P,rfl,h0⟩;obtain ⟨v0,j0,d1,R,i0⟩:=P.frz 0 rfl h0;refine WL.gh j0 (bn H fun q0 k0 H=>cl (ke R i.m (hG.m.le (by decide)) h 0 z t.m i0 k0) ?_);rintro i1 Z e1 ⟨_,A,S,U,rfl,y0⟩;refine WL.nil ?_;cases H;have T:=S.sD 1 [];exact n0 (qq Z ⟨A,T,U,rfl⟩)
def kx (sg:Sto) (p0:Option Nat) (p1:Int) (p2:Int):Option (Sto):=
 (ew sg p0 p1 p2 p1).bind fun a=>
 some a
theorem wD (j:Own c0 G F) (l:Rel c0 sg G) (hG:Gl [2,4] c0) (d:Option Nat) (a:Int) (b:Int){r:Sto}(o:Pt 0 c0 v1 d) (H:kx sg d a b=some r): Calls prog 193 #[v1,I a,I b] c0.w (aR c0 fun c v=>∃G_:Gm,Own c G_ (F)/\Rel c r G_/\v= .tuple #[]):=by
 unfold kx at H;refine en func193 rfl rfl (sr (me (bx 3 [I a] j) ?_));rintro v7 t u ⟨n,rfl,k,h⟩;refine wln (W.region (va (v1) (vx (l1 u_3 (h 0 _ rfl)) (va (I b) (va (.func (.func 249) #[] #[Q n]) (bn H fun s p H=>cl (nq k l.m (hG.m.le (by decide)) d a b a o.m h p) ?_))))));rintro v14 g q ⟨i,e,f,rfl⟩;refine WL.nil ?_;cases H;exact n0 (qq g ⟨i,e,f,rfl⟩)
def jD (p0:List ab) (p1:Int) (q0_0:Int):Option (List ab):=
 (jP p0 (w64 (q0_0+p1))).bind fun d=>
 (ka d q0_0 (w64 (q0_0+p1))).bind fun a=>
 (eI p1).bind fun b=>
 (app a b).bind fun c=>
 some c
theorem uM {b:Value}{f:List Value}{e:Nat}(d:List ab) (a:Int) (q0_0:Int) (P:Own c0 G (es true ah b 114 f d::F)){r:List ab}(S:OA ah c0 b f d) (g:∀j u,([I q0_0]:List Value)[j]? = some u->Im c0 e (0+j) u) (H:jD d a q0_0=some r): Calls prog 251 #[b,I a,Q e] c0.w (aR c0 fun c v=>∃h N,Own c G (es true ah h 114 N r::F)/\v=h/\OA ah c h N r):=by
 unfold jD at H;refine en func251 rfl rfl (sr (va (Y) (wln (sr (va (b) (vx (l1 u_3 (g 0 _ rfl)) (va (I a) (va (I (w64 (q0_0+a))) (bn H fun M T H=>cl (pU d (w64 (q0_0+a)) P S T) ?_)))))))));rintro v12 b0 g0 ⟨u5,R,rfl,U⟩;refine wln (sr (va (b) (vx (l1 u_3 ((mm g) 0 _ rfl)) (vx (l1 u_3 ((mm g) 0 _ rfl)) (va (I a) (va (I (w64 (q0_0+a))) (bn H fun X q H=>cl (vt M q0_0 (w64 (q0_0+a)) R U q) ?_)))))));rintro v15 d0 h0 ⟨_,l0,i,rfl,s⟩;refine va (I a) (bn H fun Z t H=>cl (km i a t) ?_);rintro v25 e0 i0 ⟨_,m0,k,rfl,x⟩;obtain ⟨f0,z,j0,l,y⟩:=k.frz 0 rfl x;refine WL.gh z (bn H fun a0 A H=>me (ap ah (.agg #[I 0,Y]) 32 46 1 l s.m y A cy) ?_);rintro v43 p k0 ⟨E,n,D⟩;refine va (v43) (wln (W.ret ?_));cases H;have o:=n.sD 2 [1];exact r1 (qq p ⟨v43,E,o,rfl,D⟩)
def ey (sg:Sto) (p0:Option Nat) (p1:Int) (p2:Int) (p3_0_0:Int):Option (Sto):=
 (bS sg p0).bind fun a=>
 (orE (decide (p1<0)) (some (decide (p1>=a)))).bind fun g=>
 (orE g (some (decide (p2<1)))).bind fun b=>
 if b=true then
 some sg
 else
 (eN sg p0).bind fun c=>
 (jP c p1).bind fun d=>
 (jD d (aB p2 (w64 (a-p1))) p3_0_0).bind fun e=>
 (ei sg p0 0 e).bind fun f=>
 some f.1
theorem ns {b3_0:Nat}(O0:Own c0 G F) (i:Rel c0 sg G) (hG:Gl [2,4] c0) (h:Option Nat) (a:Int) (d:Int) (p3_0_0:Int){r:Sto}(t:Pt 0 c0 v1 h) (m3:∀j u,([I p3_0_0]:List Value)[j]? = some u->Im c0 b3_0 (0+j) u) (H:ey sg h a d p3_0_0=some r): Calls prog 248 #[v1,I a,I d,.func (.func 251) #[] #[Q b3_0]] c0.w (aR c0 fun c v=>∃G_:Gm,Own c G_ (F)/\Rel c r G_/\v= .tuple #[]):=by
 unfold ey at H;refine en func248 rfl rfl (sr (va (v1) (bn H fun b h4 H=>cl (cK O0 i h t h4) ?_)));rintro v10 k l9 ⟨q,rfl⟩;refine va (I b) (wln (W.seq (W.seq (bn H fun w0 o H=>bn H fun s g H=>W.join (Jn k fun c l=>Own c G (F)/\l= [(0,v1),(1,I a),(2,I d),(3,.func (.func 251) #[] #[Q b3_0]),(8,I b),(22,B s)]) ?_ ?_))))
 ·clear H;refine W.region (va (I a) (va (B (decide (a<0))) ?_));rcases bo (decide (a<0)) with e|e
  ·obtain rfl:=orT e o;refine vb e (pz (ps (va (B true) ?_)));have p:true=true:=rfl;obtain rfl:=orT p g;exact vb p (pz (va (B true) (wln (jn k ⟨q,rfl⟩))))
  have D:=orF e o;refine vb e (wa (I a) (wa (I b) (wa (B (decide (a>=b))) ?_)));cases D;refine va (B (decide (a>=b))) ?_;rcases bo (decide (a>=b)) with f|f
  ·obtain rfl:=orT f g;exact vb f (pz (va (B true) (wln (jn k ⟨q,rfl⟩))))
  have E:=orF f g;refine vb f (wa (I d) (wa (B (decide (d<1))) ?_));cases E;exact va (B (decide (d<1))) (wln (jn k ⟨q,rfl⟩))
 rintro e_ w_ ⟨X,x0,_,rfl,z0,rfl,n,rfl⟩;refine nrm (cn H (fun a0 H=>?_) (fun a0 H=>?_))
 ·refine W.ret (thr ?_);cases H;exact r0 (qq X ⟨G,n,i.m,rfl⟩)
 refine W.skip (nrm (sr (va (v1) (bn H fun x b0 H=>cl (lH n i.m h t.m b0) ?_))));rintro v26 s0 a1 ⟨_,f1,M,rfl,d0⟩;refine va (v26) (wln (sr (va (v26) (va (I a) (bn H fun y e0 H=>cl (pU x a M d0 e0) ?_)))));rintro v44 t0 b1 ⟨g1,N,rfl,f0⟩;refine wln (W.region (va (v1) (va (.func (.func 251) #[] #[Q b3_0]) (va (v26) (va (I d) (va (I b) (va (I a) (va (I (w64 (b-a))) (va (I (aB d (w64 (b-a)))) (bn H fun z g0 H=>cl (uM y (aB d (w64 (b-a))) p3_0_0 N f0 (mm m3) g0) ?_))))))))));rintro v47 u0 c1 ⟨_,h1,P,rfl,h0⟩;obtain ⟨v0,j0,d1,R,i0⟩:=P.frz 0 rfl h0;refine WL.gh j0 (bn H fun q0 k0 H=>cl (ke R i.m (hG.m.le (by decide)) h 0 z t.m i0 k0) ?_);rintro i1 Z e1 ⟨_,A,S,U,rfl,y0⟩;refine WL.nil ?_;cases H;have T:=S.sD 1 [];exact n0 (qq Z ⟨A,T,U,rfl⟩)
def ky (sg:Sto) (p0:Option Nat) (p1:Int) (p2:Int):Option (Sto):=
 (ey sg p0 p1 p2 p1).bind fun a=>
 some a
theorem wE (j:Own c0 G F) (l:Rel c0 sg G) (hG:Gl [2,4] c0) (d:Option Nat) (a:Int) (b:Int){r:Sto}(o:Pt 0 c0 v1 d) (H:ky sg d a b=some r): Calls prog 194 #[v1,I a,I b] c0.w (aR c0 fun c v=>∃G_:Gm,Own c G_ (F)/\Rel c r G_/\v= .tuple #[]):=by
 unfold ky at H;refine en func194 rfl rfl (sr (me (bx 3 [I a] j) ?_));rintro v7 t u ⟨n,rfl,k,h⟩;refine wln (W.region (va (v1) (vx (l1 u_3 (h 0 _ rfl)) (va (I b) (va (.func (.func 251) #[] #[Q n]) (bn H fun s p H=>cl (ns k l.m (hG.m.le (by decide)) d a b a o.m h p) ?_))))));rintro v14 g q ⟨i,e,f,rfl⟩;refine WL.nil ?_;cases H;exact n0 (qq g ⟨i,e,f,rfl⟩)
def dU (p0:List ab) (p1:Int):Option (List ab):=
 (cL (σ:=(List ab)×Int) (τ:=(List ab)) (((p0.length:Int)-0).toNat+1) (fun a=>
 if (decide (a.2<(p0.length:Int)))=true then
 (idx p0 a.2).bind fun b=>
 ((bT (decide (p1<(p0.length:Int))) ((idx p0 p1).bind fun g=>
 some (g.Kind==3))).bind fun d=>
 (bT d ((orE (a.2==p1) (some ((w64 (a.2+1))==p1))).bind fun f=>
 some f)).bind fun e=>
 if e=true then
 some (0,([]:List Int))
 else
 some (b.Kind,b.Text)).bind fun c=>
 (app a.1 ([(⟨c.1,c.2⟩:ab)]:List ab)).bind fun h=>
 some (.inl (h,(w64 (a.2+1))))
 else
 some (.inr (a.1))) (([]:List ab),0)).bind fun i=>
 some i
theorem kM (O0:Own c0 G F) (M:List ab) (b:Int){r:List ab}(q:Sl ah c0 v1 M) (H:dU M b=some r): Calls prog 208 #[v1,I b] c0.w (aR c0 fun c v=>∃y1 y2,Own c G (es true ah y1 114 y2 r::F)/\v=y1/\OA ah c y1 y2 r):=by
 unfold dU at H;refine en func208 rfl rfl (sr (va (Y) (wln (sr (va (Y) (wln (W.seq (sr (va (I 0) (wln (W.block (bn H fun g3 h3 H4=>lp h3 (fun a=>Jn c0 fun c l=>∃v5 s,Own c G (es true ah v5 114 s a.1::F)/\l= [(0,v1),(1,I b),(5,v5),(6,I a.2)]/\OA ah c v5 s a.1) (fun E ex e w=>ex= .exit 0/\(Jn c0 fun c l=>∃v7 P,Own c G (es true ah v7 114 P E::F)/\l= [(5,v7)]/\OA ah c v7 P E) e w) ?_ ?_ ?_))))))))))))
 ·clear H4 h3;intro a k3 f1 e2 H;revert f1 e2;rintro e_ w_ ⟨c9,t2,_,rfl,l9,rfl,v5,s,R,rfl,a0⟩;refine W.seq (sr (va (I a.2) (va (v1) (vx (ln 3 cy q.m) (va (B (decide (a.2<(M.length:Int)))) (wln (cn H (fun g1 H=>?_) (fun g1 H=>?_))))))))
  ·refine W.skip (nrm (W.seq (W.block (sr (va (v1) (va (I a.2) (bn H fun N b0 H=>?_)))))));obtain ⟨l2,h1,b2⟩:=Sl.at (q.mono l9) (aU b0);obtain ⟨v21,rfl,A⟩:=h1;refine vx (ix cy q.m b0) (vx (lN 114 b2) (me (al 114 [I 0,Y] R) ?_));rintro v26 o2 i0 ⟨p,rfl,t0⟩;obtain ⟨x,y,z,rfl⟩:=((A.mono i0)).form;refine md (sA 114 [I N.Kind,.slice x y z] 0 t0 ⟨rfl,A.m.one,trivial⟩) ?_;rintro g x1 o;refine wln (bn H fun f d t=>W.seqJ (Jn g fun c l=>∃v34,Own c G ((Eb p 114 [I f.1,v34])::es true ah v5 114 s a.1::F)/\l= [(0,v1),(1,I b),(5,v5),(6,I a.2),(7,Q p)]/\Sl (RI .i32) c v34 f.2) ?_ ?_)
   ·refine W.seq (bn d fun j2 d0 d=>bn d fun k0 D d=>W.join (Jn g fun c l=>Own c G ((Eb p 114 [I N.Kind,.slice x y z])::es true ah v5 114 s a.1::F)/\l= [(0,v1),(1,I b),(5,v5),(6,I a.2),(7,Q p),(40,B k0)]) ?_ ?_)
    ·clear d;refine W.region (va (I b) (va (v1) (vx (ln 3 cy q.m) (va (B (decide (b<(M.length:Int)))) ?_))));rcases bo (decide (b<(M.length:Int))) with h|h
     ·have u:=anT h d0;refine vb h (wa (v1) (wa (I b) (wn (bn u fun k e0 u=>?_))));obtain ⟨m2,j1,c2⟩:=Sl.at (q.mono (l9.trans (i0.trans x1))) (aU e0);obtain ⟨v43,rfl,x2⟩:=j1;refine vx (ix cy q.m e0) (wa (Qo (sb v1) (so v1+b.toNat*2)) (wn (vx (l1 u_3 (c2 0 _ rfl)) (wa (B (k.Kind==3)) ?_))));cases u;refine va (B (k.Kind==3)) ?_;rcases bo (k.Kind==3) with i|i
      ·have n:=anT i D;refine vb i (wa (I a.2) (wa (I b) (wa (B (a.2==b)) (wn (bn n fun k2 f0 n=>?_)))));rcases bo (a.2==b) with j|j
       ·obtain rfl:=orT j f0;refine vb j (pz (pz (wa (B true) ?_)));cases n;exact va (B true) (wln (jn g ⟨o,rfl⟩))
       have s0:=orF j f0;refine vb j (wa (I a.2) (wa (I (w64 (a.2+1))) (wa (I b) (wa (B ((w64 (a.2+1))==b)) (wn ?_)))));cases s0;refine va (B ((w64 (a.2+1))==b)) ?_;cases n;exact va (B ((w64 (a.2+1))==b)) (wln (jn g ⟨o,rfl⟩))
      obtain rfl:=anF i D;exact vb i (pz (pz (pz (pz (ps (va (B false) (wln (jn g ⟨o,rfl⟩))))))))
     obtain rfl:=anF h d0;refine vb h (pz (pz (pz (va (B false) ?_))));have g0:false=false:=rfl;obtain rfl:=anF g0 D;exact vb g0 (pz (pz (pz (pz (ps (va (B false) (wln (jn g ⟨o,rfl⟩))))))))
    rintro e_ w_ ⟨b1,u2,_,rfl,z2,rfl,S,rfl⟩;refine nrm (cn d (fun k1 d=>?_) (fun k1 d=>?_))
    ·refine W.region (va (.agg #[I 0,Y]) (md (sA 114 [I 0,Y] 0 S ⟨rfl,rfl,trivial⟩) ?_));rintro c1 a3 u0;refine wln ?_;cases d;exact jn c1 ⟨(Y),u0,rfl,(Sl.nl _ _)⟩
    refine W.skip (nrm ?_);cases d;exact jn b1 ⟨(.slice x y z),S,rfl,A.m⟩
   rintro e_ w_ ⟨p2,v2,_,rfl,b3,rfl,v34,T,rfl,h0⟩;refine W.region (va (v5) (vx (leN 114 0 [I f.1,v34] (T.on 0 rfl)) ?_));obtain ⟨U,X,Z,rfl⟩:=(h0).form;refine me (sl ah 114 [[I f.1,.slice U X Z]] ([(⟨f.1,f.2⟩:ab)]:List ab) T ⟨⟨(.slice U X Z),rfl,h0⟩,trivial⟩) ?_;rintro j3 q2 c3 ⟨i3,v0,m1⟩;obtain ⟨s2,q1,d3,w0,n1⟩:=v0.frz 0 rfl m1;refine WL.gh q1 (bn t fun n2 s1 t=>me (ap ah (.agg #[I 0,Y]) 32 46 2 w0 a0.m n1 s1 cy) ?_);rintro j0 d1 e3 ⟨d2,x0,t1⟩;refine va (j0) (WL.nil (bkn (nrm (W.region (va (I a.2) (vv (I (w64 (a.2+1))) (WL.nil ?_)))))));cases t;refine ⟨_,rfl,?_⟩;have y0:=x0.sD 3 [2];exact jn d1 ⟨j0,d2,y0,rfl,t1⟩
  refine W.exit (thx ?_);cases H;exact ⟨_,rfl,rfl,jn c9 ⟨v5,s,R,rfl,a0⟩⟩
 ·have u1:OA ah c0 (Y) [] []:=OA.nil (aN _);have z0:=O0.addHole (e:=es true ah (Y) 114 [] ([]:List ab)) rfl;exact jn c0 ⟨(Y),[],z0,rfl,u1⟩
 rintro _ e_ w_ ⟨rfl,e1,w2,_,rfl,f3,rfl,v7,P,a1,rfl,w1⟩;refine bke (nrm (sr (vv (v7) (wln (W.ret ?_)))));cases H4;exact r1 (qq e1 ⟨v7,P,a1,rfl,w1⟩)
def fw (p0:List ab) (p1:Int) (p2:Int):Option ((List ab)×Bool):=
 (orE (decide (p1<0)) (some (decide (p1>=(p0.length:Int))))).bind fun l=>
 (orE l (some (decide (p2<1)))).bind fun h=>
 if h=true then
 some (p0,false)
 else
 (dU p0 p1).bind fun c=>
 (cL (σ:=(List ab)×Int) (τ:=(List ab)) (((p0.length:Int)-0).toNat+1) (fun a=>
 if (decide (a.2<(p0.length:Int)))=true then
 (if (decide (a.2<p1))=true then
 (idx c a.2).bind fun d=>
 some (d.Kind,d.Text)
 else
 some (0,([]:List Int))).bind fun f=>
 (if (decide (a.2>=(w64 (p1+(aB p2 (w64 ((p0.length:Int)-p1)))))))=true then
 (idx c (w64 (a.2-(aB p2 (w64 ((p0.length:Int)-p1)))))).bind fun e=>
 some (e.Kind,e.Text)
 else
 some (f.1,f.2)).bind fun b=>
 ((bT ((w64 (a.2+1))==(p0.length:Int)) (some (b.1==2))).bind fun i=>
 if i=true then
 some (0,([]:List Int))
 else
 some (b.1,b.2)).bind fun g=>
 (app a.1 ([(⟨g.1,g.2⟩:ab)]:List ab)).bind fun k=>
 some (.inl (k,(w64 (a.2+1))))
 else
 some (.inr (a.1))) (([]:List ab),0)).bind fun j=>
 some (j,true)
theorem pZ (O0:Own c0 G F) (d:List ab) (b:Int) (f:Int){r:(List ab)×Bool}(P:Sl ah c0 v1 d) (H:fw d b f=some r): Calls prog 142 #[v1,I b,I f] c0.w (aR c0 fun c v=>∃y1,Own c G (F)/\v= .tuple #[y1,B r.2]/\Sl ah c y1 r.1):=by
 unfold fw at H;refine en func142 rfl rfl (sr (va (Y) (va (B false) (wln (W.seq (W.seq (bn H fun y4 h3 H=>bn H fun f2 h4 H=>W.join (Jn c0 fun c l=>Own c G (F)/\l= [(0,v1),(1,I b),(2,I f),(23,B f2)]) ?_ ?_)))))))
 ·clear H;refine W.region (va (I b) (va (B (decide (b<0))) ?_));rcases bo (decide (b<0)) with h5|h5
  ·obtain rfl:=orT h5 h3;refine vb h5 (pz (pz (va (B true) ?_)));have h6:true=true:=rfl;obtain rfl:=orT h6 h4;exact vb h6 (pz (va (B true) (wln (jn c0 ⟨O0,rfl⟩))))
  have H7:=orF h5 h3;refine vb h5 (wa (I b) (wa (v1) (wn (vx (ln 3 cy P) (wa (B (decide (b>=(d.length:Int)))) ?_)))));cases H7;refine va (B (decide (b>=(d.length:Int)))) ?_;rcases bo (decide (b>=(d.length:Int))) with h8|h8
  ·obtain rfl:=orT h8 h4;exact vb h8 (pz (va (B true) (wln (jn c0 ⟨O0,rfl⟩))))
  have H9:=orF h8 h4;refine vb h8 (wa (I f) (wa (B (decide (f<1))) ?_));cases H9;exact va (B (decide (f<1))) (wln (jn c0 ⟨O0,rfl⟩))
 rintro N R ⟨d3,z4,_,rfl,e5,rfl,t0,rfl⟩;refine nrm (cn H (fun k3 H=>?_) (fun k3 H=>?_))
 ·refine sr (vv (v1) (va (B false) (wln (W.ret (thr ?_)))));cases H;exact r2 (qq d3 ⟨v1,t0,rfl,P.m⟩)
 refine W.skip (nrm (sr (va (I f) (va (v1) (vx (ln 3 cy P.m) (va (I b) (va (I (w64 ((d.length:Int)-b))) (vv (I (aB f (w64 ((d.length:Int)-b)))) (wln (sr (va (v1) (va (I b) (bn H fun h l3 H=>cl (kM t0 d b P.m l3) ?_)))))))))))));rintro v18 A f5 ⟨_,t,z2,rfl,s⟩;refine va (v18) (wln (sr (va (Y) (wln (W.seq (sr (va (I 0) (wln (W.block (bn H fun t4 e1 s0=>lp e1 (fun a=>Jn A fun c l=>∃v29 n,Own c G (es true ah v29 114 n a.1::es true ah v18 114 t h::F)/\l= [(0,v1),(1,I b),(2,I (aB f (w64 ((d.length:Int)-b)))),(8,v18),(9,v29),(10,I a.2)]/\OA ah c v29 n a.1) (fun E ex e w=>ex= .exit 0/\(Jn A fun c l=>∃v31 m0,Own c G (es true ah v31 114 m0 E::es true ah v18 114 t h::F)/\l= [(9,v31)]/\OA ah c v31 m0 E) e w) ?_ ?_ ?_))))))))))
 ·clear s0 e1;intro a l5 j3 z3 H;revert j3 z3;rintro N R ⟨e3,a5,_,rfl,h1,rfl,v29,n,u0,rfl,f1⟩;refine W.seq (sr (va (I a.2) (va (v1) (vx (ln 3 cy P.m) (va (B (decide (a.2<(d.length:Int)))) (wln (cn H (fun n3 H=>?_) (fun n3 H=>?_))))))))
  ·refine W.skip (nrm (W.seq (W.block (sr (va (.agg #[I 0,Y]) (me (al 114 [I 0,Y] u0) ?_))))));rintro v44 x4 i1 ⟨g,rfl,a3⟩;refine md (sA 114 [I 0,Y] 0 a3 ⟨rfl,rfl,trivial⟩) ?_;rintro c1 j1 X;refine wln (bn H fun q0 o w2=>W.seqJ (Jn c1 fun c l=>∃v49,Own c G ((Eb g 114 [I q0.1,v49])::es true ah v29 114 n a.1::es true ah v18 114 t h::F)/\l= [(0,v1),(1,I b),(2,I (aB f (w64 ((d.length:Int)-b)))),(8,v18),(9,v29),(10,I a.2),(11,Q g)]/\Sl (RI .i32) c v49 q0.2) ?_ ?_)
   ·refine sr (va (I a.2) (va (I b) (va (B (decide (a.2<b))) (wln (cn o (fun o3 o=>?_) (fun o3 o=>?_))))))
    ·refine W.region (va (v18) (va (I a.2) (bn o fun y h0 o=>vx (ixO cy s.m h0) ?_)));obtain ⟨r4,p3,x3⟩:=OA.at (s.mono (h1.trans (i1.trans j1))) h0;obtain ⟨v55,rfl,i0⟩:=p3;refine vr (.agg #[I y.Kind,v55]) (rx (by kernel_rfl) (AH (T:=114) (l:=[I y.Kind,v55]) (by kernel_rfl) (by kernel_rfl) (X.on 2 rfl) (s.m.blk h0) (at2 (j:=0) x3 rfl))) ?_;obtain ⟨w0,x0,y0,rfl⟩:=(i0).form;refine md (sA 114 [I y.Kind,.slice w0 x0 y0] 0 X ⟨rfl,i0.one,trivial⟩) ?_;rintro f3 g5 b3;refine wln ?_;cases o;exact jn f3 ⟨(.slice w0 x0 y0),b3,rfl,i0.m⟩
    refine W.skip (nrm ?_);cases o;exact jn c1 ⟨(Y),X,rfl,(Sl.nl _ _)⟩
   rintro N R ⟨d1,b5,_,rfl,w3,rfl,v49,Z,rfl,s3⟩;refine bn w2 fun q p x2=>W.seqJ (Jn d1 fun c l=>∃x,Own c G ((Eb g 114 [I q.1,x])::es true ah v29 114 n a.1::es true ah v18 114 t h::F)/\l= [(0,v1),(1,I b),(2,I (aB f (w64 ((d.length:Int)-b)))),(8,v18),(9,v29),(10,I a.2),(11,Q g)]/\Sl (RI .i32) c x q.2) ?_ ?_
   ·refine sr (va (I a.2) (va (I b) (va (I (aB f (w64 ((d.length:Int)-b)))) (va (I (w64 (b+(aB f (w64 ((d.length:Int)-b)))))) (va (B (decide (a.2>=(w64 (b+(aB f (w64 ((d.length:Int)-b)))))))) (wln (cn p (fun t3 p=>?_) (fun t3 p=>?_))))))))
    ·refine W.region (va (v18) (va (I a.2) (va (I (aB f (w64 ((d.length:Int)-b)))) (va (I (w64 (a.2-(aB f (w64 ((d.length:Int)-b)))))) (bn p fun z j0 p=>vx (ixO cy s.m j0) ?_)))));obtain ⟨s4,u3,y3⟩:=OA.at (s.mono (h1.trans (i1.trans (j1.trans w3)))) j0;obtain ⟨k1,rfl,k0⟩:=u3;refine vr (.agg #[I z.Kind,k1]) (rx (by kernel_rfl) (AH (T:=114) (l:=[I z.Kind,k1]) (by kernel_rfl) (by kernel_rfl) (Z.on 2 rfl) (s.m.blk j0) (at2 (j:=0) y3 rfl))) ?_;obtain ⟨z0,a1,b1,rfl⟩:=(k0).form;refine md (sA 114 [I z.Kind,.slice z0 a1 b1] 0 Z ⟨rfl,k0.one,trivial⟩) ?_;rintro g3 i5 c3;refine wln ?_;cases p;exact jn g3 ⟨(.slice z0 a1 b1),c3,rfl,k0.m⟩
    refine W.skip (nrm ?_);cases p;exact jn d1 ⟨v49,Z,rfl,s3⟩
   rintro N R ⟨D,c5,_,rfl,j5,rfl,x,a0,rfl,v3⟩;refine bn x2 fun i k S=>W.seqJ (Jn D fun c l=>∃M,Own c G ((Eb g 114 [I i.1,M])::es true ah v29 114 n a.1::es true ah v18 114 t h::F)/\l= [(0,v1),(1,I b),(2,I (aB f (w64 ((d.length:Int)-b)))),(8,v18),(9,v29),(10,I a.2),(11,Q g)]/\Sl (RI .i32) c M i.2) ?_ ?_
   ·refine W.seq (bn k fun g2 g1 k=>W.join (Jn D fun c l=>Own c G ((Eb g 114 [I q.1,x])::es true ah v29 114 n a.1::es true ah v18 114 t h::F)/\l= [(0,v1),(1,I b),(2,I (aB f (w64 ((d.length:Int)-b)))),(8,v18),(9,v29),(10,I a.2),(11,Q g),(68,B g2)]) ?_ ?_)
    ·clear k;refine W.region (va (I a.2) (va (I (w64 (a.2+1))) (va (v1) (vx (ln 3 cy P.m) (va (B ((w64 (a.2+1))==(d.length:Int))) ?_)))));rcases bo ((w64 (a.2+1))==(d.length:Int)) with u|u
     ·have y2:=anT u g1;refine vb u (wa (Q g) (wn (vx (le1 0 u_3 (a0.on 0 rfl)) (wa (B (q.1==2)) ?_))));cases y2;exact va (B (q.1==2)) (wln (jn D ⟨a0,rfl⟩))
     obtain rfl:=anF u g1;exact vb u (pz (ps (va (B false) (wln (jn D ⟨a0,rfl⟩)))))
    rintro N R ⟨i3,d5,_,rfl,k5,rfl,v0,rfl⟩;refine nrm (cn k (fun i2 k=>?_) (fun i2 k=>?_))
    ·refine W.region (va (.agg #[I 0,Y]) (md (sA 114 [I 0,Y] 0 v0 ⟨rfl,rfl,trivial⟩) ?_));rintro c2 k4 n1;refine wln ?_;cases k;exact jn c2 ⟨(Y),n1,rfl,(Sl.nl _ _)⟩
    refine W.skip (nrm ?_);cases k;exact jn i3 ⟨x,v0,rfl,v3.m⟩
   rintro N R ⟨d4,i4,_,rfl,l4,rfl,M,U,rfl,f0⟩;refine W.region (va (v29) (vx (leN 114 0 [I i.1,M] (U.on 0 rfl)) ?_));obtain ⟨b0,d0,e0,rfl⟩:=(f0).form;refine me (sl ah 114 [[I i.1,.slice b0 d0 e0]] ([(⟨i.1,i.2⟩:ab)]:List ab) U ⟨⟨(.slice b0 d0 e0),rfl,f0⟩,trivial⟩) ?_;rintro v4 e4 m4 ⟨u4,q1,j2⟩;obtain ⟨f4,l2,n4,s1,k2⟩:=q1.frz 0 rfl j2;refine WL.gh l2 (bn S fun w4 m2 S=>me (ap ah (.agg #[I 0,Y]) 32 46 2 s1 f1.m k2 m2 cy) ?_);rintro o0 d2 o4 ⟨v2,t1,n2⟩;refine va (o0) (WL.nil (bkn (nrm (W.region (va (I a.2) (vv (I (w64 (a.2+1))) (WL.nil ?_)))))));cases S;refine ⟨_,rfl,?_⟩;have u1:=t1.sD 4 [2,3];exact jn d2 ⟨o0,v2,u1,rfl,n2⟩
  refine W.exit (thx ?_);cases H;exact ⟨_,rfl,rfl,jn e3 ⟨v29,n,u0,rfl,f1⟩⟩
 ·have o2:OA ah A (Y) [] []:=OA.nil (aN _);have w1:=z2.addHole (e:=es true ah (Y) 114 [] ([]:List ab)) rfl;exact jn A ⟨(Y),[],w1,rfl,o2⟩
 rintro _ N R ⟨rfl,g4,j4,_,rfl,p4,rfl,v31,m0,x1,rfl,q2⟩;refine bke (nrm (sr (vv (v31) (va (B true) (wln (W.ret ?_))))));cases s0;obtain ⟨e2,t2,q4,z1,s2⟩:=x1.frz 0 rfl q2;have b2:=z1.sD 2 [];exact A1 t2 (r2 (qq e2 ⟨v31,b2,rfl,s2⟩))
def fy (p0:List ab) (p1:Int) (p2:Int):Option ((List ab)×Bool):=
 (orE (decide (p1<0)) (some (decide (p1>=(p0.length:Int))))).bind fun j=>
 (orE j (some (decide (p2<1)))).bind fun f=>
 if f=true then
 some (p0,false)
 else
 (dU p0 p1).bind fun h=>
 (dU h (w64 (p1+(aB p2 (w64 ((p0.length:Int)-p1)))))).bind fun b=>
 (cL (σ:=(List ab)×Int) (τ:=(List ab)) (((p0.length:Int)-0).toNat+1) (fun a=>
 if (decide (a.2<(p0.length:Int)))=true then
 (if (decide (a.2<p1))=true then
 (idx b a.2).bind fun c=>
 some (c.Kind,c.Text)
 else
 if (decide ((w64 (a.2+(aB p2 (w64 ((p0.length:Int)-p1)))))<(p0.length:Int)))=true then
 (idx b (w64 (a.2+(aB p2 (w64 ((p0.length:Int)-p1)))))).bind fun d=>
 some (d.Kind,d.Text)
 else
 some (0,([]:List Int))).bind fun e=>
 (app a.1 ([(⟨e.1,e.2⟩:ab)]:List ab)).bind fun i=>
 some (.inl (i,(w64 (a.2+1))))
 else
 some (.inr (a.1))) (([]:List ab),0)).bind fun g=>
 some (g,true)
theorem qa (O0:Own c0 G F) (d:List ab) (b:Int) (g:Int){r:(List ab)×Bool}(y:Sl ah c0 v1 d) (H:fy d b g=some r): Calls prog 143 #[v1,I b,I g] c0.w (aR c0 fun c v=>∃y1,Own c G (F)/\v= .tuple #[y1,B r.2]/\Sl ah c y1 r.1):=by
 unfold fy at H;refine en func143 rfl rfl (sr (va (Y) (va (B false) (wln (W.seq (W.seq (bn H fun i4 h3 H=>bn H fun k1 h4 H=>W.join (Jn c0 fun c l=>Own c G (F)/\l= [(0,v1),(1,I b),(2,I g),(23,B k1)]) ?_ ?_)))))))
 ·clear H;refine W.region (va (I b) (va (B (decide (b<0))) ?_));rcases bo (decide (b<0)) with A|A
  ·obtain rfl:=orT A h3;refine vb A (pz (pz (va (B true) ?_)));have h6:true=true:=rfl;obtain rfl:=orT h6 h4;exact vb h6 (pz (va (B true) (wln (jn c0 ⟨O0,rfl⟩))))
  have H7:=orF A h3;refine vb A (wa (I b) (wa (v1) (wn (vx (ln 3 cy y) (wa (B (decide (b>=(d.length:Int)))) ?_)))));cases H7;refine va (B (decide (b>=(d.length:Int)))) ?_;rcases bo (decide (b>=(d.length:Int))) with N|N
  ·obtain rfl:=orT N h4;exact vb N (pz (va (B true) (wln (jn c0 ⟨O0,rfl⟩))))
  have H9:=orF N h4;refine vb N (wa (I g) (wa (B (decide (g<1))) ?_));cases H9;exact va (B (decide (g<1))) (wln (jn c0 ⟨O0,rfl⟩))
 rintro e_ w_ ⟨n2,j4,_,rfl,m4,rfl,a0,rfl⟩;refine nrm (cn H (fun u2 H=>?_) (fun u2 H=>?_))
 ·refine sr (vv (v1) (va (B false) (wln (W.ret (thr ?_)))));cases H;exact r2 (qq n2 ⟨v1,a0,rfl,y.m⟩)
 refine W.skip (nrm (sr (va (I g) (va (v1) (vx (ln 3 cy y.m) (va (I b) (va (I (w64 ((d.length:Int)-b))) (vv (I (aB g (w64 ((d.length:Int)-b)))) (wln (sr (va (v1) (va (I b) (bn H fun k v2 H=>cl (kM a0 d b y.m v2) ?_)))))))))))));rintro v18 d4 n4 ⟨_,R,f2,rfl,w2⟩;refine va (I b) (va (I (aB g (w64 ((d.length:Int)-b)))) (va (I (w64 (b+(aB g (w64 ((d.length:Int)-b)))))) ?_));obtain ⟨e4,z2,o4,g2,x2⟩:=f2.frz 0 rfl w2;refine WL.gh z2 (bn H fun p a3 H=>cl (kM g2 k (w64 (b+(aB g (w64 ((d.length:Int)-b))))) x2 a3) ?_);rintro v32 t p4 ⟨_,S,i2,rfl,i⟩;refine va (v32) (wln (sr (va (Y) (wln (W.seq (sr (va (I 0) (wln (W.block (bn H fun a4 s0 Z=>lp s0 (fun a=>Jn t fun c l=>∃v43 o,Own c G (es true ah v43 114 o a.1::es true ah v32 114 S p::es false ah v18 114 R k::F)/\l= [(0,v1),(1,I b),(2,I (aB g (w64 ((d.length:Int)-b)))),(8,v32),(9,v43),(10,I a.2)]/\OA ah c v43 o a.1) (fun u ex e w=>ex= .exit 0/\(Jn t fun c l=>∃v45 U,Own c G (es true ah v45 114 U u::es true ah v32 114 S p::es false ah v18 114 R k::F)/\l= [(9,v45)]/\OA ah c v45 U u) e w) ?_ ?_ ?_))))))))))
 ·clear Z s0;intro a u4 t2 k3 H;revert t2 k3;rintro e_ w_ ⟨o2,k4,_,rfl,v0,rfl,v43,o,b0,rfl,t0⟩;refine W.seq (sr (va (I a.2) (va (v1) (vx (ln 3 cy y.m) (va (B (decide (a.2<(d.length:Int)))) (wln (cn H (fun b3 H=>?_) (fun b3 H=>?_))))))))
  ·refine W.skip (nrm (W.seq (W.block (sr (va (.agg #[I 0,Y]) (me (al 114 [I 0,Y] b0) ?_))))));rintro v58 f4 w0 ⟨o0,rfl,j2⟩;refine md (sA 114 [I 0,Y] 0 j2 ⟨rfl,rfl,trivial⟩) ?_;rintro q0 x0 n;refine wln (bn H fun h f z=>W.seqJ (Jn q0 fun c l=>∃x,Own c G ((Eb o0 114 [I h.1,x])::es true ah v43 114 o a.1::es true ah v32 114 S p::es false ah v18 114 R k::F)/\l= [(0,v1),(1,I b),(2,I (aB g (w64 ((d.length:Int)-b)))),(8,v32),(9,v43),(10,I a.2),(11,Q o0)]/\Sl (RI .i32) c x h.2) ?_ ?_)
   ·refine sr (va (I a.2) (va (I b) (va (B (decide (a.2<b))) (wln (cn f (fun d3 f=>?_) (fun d3 f=>?_))))))
    ·refine W.region (va (v32) (va (I a.2) (bn f fun q D f=>vx (ixO cy i.m D) ?_)));obtain ⟨y3,e3,i3⟩:=OA.at (i.mono (v0.trans (w0.trans x0))) D;obtain ⟨y0,rfl,E⟩:=e3;refine vr (.agg #[I q.Kind,y0]) (rx (by kernel_rfl) (AH (T:=114) (l:=[I q.Kind,y0]) (by kernel_rfl) (by kernel_rfl) (n.on 2 rfl) (i.m.blk D) (at2 (j:=0) i3 rfl))) ?_;obtain ⟨e0,f0,g0,rfl⟩:=(E).form;refine md (sA 114 [I q.Kind,.slice e0 f0 g0] 0 n ⟨rfl,E.one,trivial⟩) ?_;rintro q2 q4 k2;refine wln ?_;cases f;exact jn q2 ⟨(.slice e0 f0 g0),k2,rfl,E.m⟩
    refine sr (va (I a.2) (va (I (aB g (w64 ((d.length:Int)-b)))) (va (I (w64 (a.2+(aB g (w64 ((d.length:Int)-b)))))) (va (v1) (vx (ln 3 cy y.m) (va (B (decide ((w64 (a.2+(aB g (w64 ((d.length:Int)-b)))))<(d.length:Int)))) (wln (cn f (fun f3 f=>?_) (fun f3 f=>?_)))))))))
    ·refine W.region (va (v32) (va (I a.2) (va (I (aB g (w64 ((d.length:Int)-b)))) (va (I (w64 (a.2+(aB g (w64 ((d.length:Int)-b)))))) (bn f fun s M f=>vx (ixO cy i.m M) ?_)))));obtain ⟨z3,g3,j3⟩:=OA.at (i.mono (v0.trans (w0.trans x0))) M;obtain ⟨z0,rfl,P⟩:=g3;refine vr (.agg #[I s.Kind,z0]) (rx (by kernel_rfl) (AH (T:=114) (l:=[I s.Kind,z0]) (by kernel_rfl) (by kernel_rfl) (n.on 2 rfl) (i.m.blk M) (at2 (j:=0) j3 rfl))) ?_;obtain ⟨h0,i0,j0,rfl⟩:=(P).form;refine md (sA 114 [I s.Kind,.slice h0 i0 j0] 0 n ⟨rfl,P.one,trivial⟩) ?_;rintro s2 r4 l2;refine wln ?_;cases f;exact jn s2 ⟨(.slice h0 i0 j0),l2,rfl,P.m⟩
    refine W.skip (nrm ?_);cases f;exact jn q0 ⟨(Y),n,rfl,(Sl.nl _ _)⟩
   rintro e_ w_ ⟨g4,l4,_,rfl,s4,rfl,x,d0,rfl,u0⟩;refine W.region (va (v43) (vx (leN 114 0 [I h.1,x] (d0.on 0 rfl)) ?_));obtain ⟨k0,l0,m0,rfl⟩:=(u0).form;refine me (sl ah 114 [[I h.1,.slice k0 l0 m0]] ([(⟨h.1,h.2⟩:ab)]:List ab) d0 ⟨⟨(.slice k0 l0 m0),rfl,u0⟩,trivial⟩) ?_;rintro b4 o3 t3 ⟨t4,m2,n1⟩;obtain ⟨p3,s1,u3,b1,q1⟩:=m2.frz 0 rfl n1;refine WL.gh s1 (bn z fun c4 t1 z=>me (ap ah (.agg #[I 0,Y]) 32 46 2 b1 t0.m q1 t1 cy) ?_);rintro X i1 v3 ⟨d2,c1,u1⟩;refine va (X) (WL.nil (bkn (nrm (W.region (va (I a.2) (vv (I (w64 (a.2+1))) (WL.nil ?_)))))));cases z;refine ⟨_,rfl,?_⟩;have d1:=c1.sD 5 [2,3,4];exact jn i1 ⟨X,d2,d1,rfl,u1⟩
  refine W.exit (thx ?_);cases H;exact ⟨_,rfl,rfl,jn o2 ⟨v43,o,b0,rfl,t0⟩⟩
 ·have w1:OA ah t (Y) [] []:=OA.nil (aN _);have e1:=i2.addHole (e:=es true ah (Y) 114 [] ([]:List ab)) rfl;exact jn t ⟨(Y),[],e1,rfl,w1⟩
 rintro _ e_ w_ ⟨rfl,q3,s3,_,rfl,w3,rfl,v45,U,f1,rfl,x1⟩;refine bke (nrm (sr (vv (v45) (va (B true) (wln (W.ret ?_))))));cases Z;obtain ⟨j1,b2,x3,g1,z1⟩:=f1.frz 0 rfl x1;have h1:=g1.sD 3 [];exact A1 b2 (r2 (qq j1 ⟨v45,h1,rfl,z1⟩))
def jq (p0:Int) (p1:Int) (p2:Int) (p3:Int):Option (ai):=
 (gu (⟨p0,p1,false⟩:ai) p2 p3).bind fun a=>
 some a
theorem sO (j:Own c0 G F) (b:Int) (d:Int) (e:Int) (f:Int){r:ai}(H:jq b d e f=some r): Calls prog 121 #[I b,I d,I e,I f] c0.w (aR c0 fun c v=>Own c G (F)/\v= .agg #[I r.Row,I r.Col,B r.Pending]):=by
 unfold jq at H;refine en func121 rfl rfl (sr (me (al 29 [I 0,I 0,B false] j) ?_));rintro v4 s t ⟨q,rfl,k⟩;refine wln (sr (va (I b) (va (I d) (va (.agg #[I b,I d,B false]) (va (I e) (va (I f) (bn H fun a m H=>cl (eJ k (⟨b,d,false⟩:ai) e f m) ?_)))))));rintro v11 n o ⟨l,rfl⟩;refine md (sA 29 [I a.Row,I a.Col,B a.Pending] 0 l ⟨rfl,rfl,rfl,trivial⟩) ?_;rintro h p g;refine wln (W.ret ?_);obtain rfl:=si H;have i:=g.sD 1 [];exact kv (c:=h) (vs:=[I a.Row,I a.Col,B a.Pending]) rfl (by kernel_rfl) (by kernel_rfl) (by kernel_rfl) (g.on 0 rfl _ rfl).1 ⟨_,h,rfl,rfl,pt,i,rfl⟩
def pf (p0:List ab) (p1:Int):Option (List ab):=
 (slc p0 0 p1).bind fun a=>
 ((bT (decide (p1>0)) ((idx a (w64 (p1-1))).bind fun d=>
 some (d.Kind==2))).bind fun b=>
 if b=true then
 (idx a (w64 (p1-1))).bind fun f=>
 (pJ a (w64 (p1-1)) (⟨0,([]:List Int)⟩:ab)).bind fun c=>
 some (c)
 else
 some (a)).bind fun e=>
 some e
theorem CL {h:Value}{f:List Value}(x:List ab) (a:Int) (O0:Own c0 G (es true ah h 114 f x::F)){r:List ab}(h1:OA ah c0 h f x) (H:pf x a=some r): Calls prog 185 #[h,I a] c0.w (aR c0 fun c v=>∃y y2,Own c G (es true ah y 114 y2 r::F)/\v=y/\OA ah c y y2 r):=by
 unfold pf at H;refine en func185 rfl rfl (sr (va (Y) (wln (sr (va (h) (vv (I a) (bn H fun d0 h2 H=>?_)))))));obtain ⟨v3,h4,s,i⟩:=Own.cutHM (k2:= .i64) (k':= .i64) 0 O0 rfl cy h1 (by kernel_rfl) h2;refine vr v3 (rx (by kernel_rfl) (h4 _)) (va (v3) (wln (bn H fun q b H8=>W.seqJ (Jn c0 fun c l=>∃v9 g,Own c G (es true ah v9 114 g q::F)/\l= [(0,v9)]/\OA ah c v9 g q) ?_ ?_)))
 ·refine W.seq (bn b fun t p b=>W.join (Jn c0 fun c l=>Own c G (es true ah v3 114 f d0::F)/\l= [(0,v3),(1,I a),(19,B t)]) ?_ ?_)
  ·clear b;refine W.region (va (I a) (va (B (decide (a>0))) ?_));rcases bo (decide (a>0)) with d|d
   ·have k:=anT d p;refine vb d (wa (v3) (wa (I a) (wa (I (w64 (a-1))) (wn (bn k fun e n k=>vx (ixO cy i n) (wa (Qo (sb v3) ((w64 (a-1)).toNat*2)) (wn ?_)))))));obtain ⟨l0,N,a0⟩:=OA.at i n;obtain ⟨v18,rfl,u0⟩:=N;refine vr (I e.Kind) (rx (by kernel_rfl) (lI u_3 rfl (s.on 0 rfl) (i.blk n) (at1 (j:=0) a0 rfl))) (wa (B (e.Kind==2)) ?_);cases k;exact va (B (e.Kind==2)) (wln (jn c0 ⟨s,rfl⟩))
   obtain rfl:=anF d p;exact vb d (pz (pz (pz (ps (va (B false) (wln (jn c0 ⟨s,rfl⟩)))))))
  rintro e_ w_ ⟨D,s0,_,rfl,v0,rfl,o,rfl⟩;refine nrm (cn b (fun P b=>?_) (fun P b=>?_))
  ·refine W.region (va (v3) (va (I a) (va (I (w64 (a-1))) (va (.agg #[I 0,Y]) (bn b fun q0 S b=>vx (ixO cy i.m S) (bn b fun o0 U b=>md (Own.stW (R:=ah) (T:=114) (us:=[I 0,Y]) (x':=(⟨0,([]:List Int)⟩:ab)) (u:= .agg #[I 0,Y]) 0 o (by kernel_rfl) rfl i.m U rfl (by kernel_rfl) ⟨rfl,rfl,trivial⟩ rfl ⟨(Y),rfl,(Sl.nl _ _)⟩) ?_))))));rintro E w0 ⟨b0,z,X⟩;refine wln ?_;cases b;exact jn E ⟨v3,b0,z,rfl,X⟩
  refine W.skip (nrm ?_);cases b;exact jn D ⟨v3,f,o,rfl,i.m⟩
 rintro e_ w_ ⟨M,t0,_,rfl,x0,rfl,v9,g,A,rfl,Z⟩;refine sr (vv (v9) (wln (W.ret ?_)));cases H8;exact r1 (qq M ⟨v9,g,A,rfl,Z⟩)
def tV (sg:Sto) (p0:List ab):Option (Sto×(Option Nat)):=
 (ra sg p0).bind fun a=>
 if (!a.2.2.isNil)=true then
 some (a.1,(none:Option Nat))
 else
 some (a.1,a.2.1)
theorem Em (l:Own c0 G F) (m:Rel c0 sg G) (hG:Gl [2,4] c0) (f:List ab){r:Sto×(Option Nat)}(o:Sl ah c0 v1 f) (H:tV sg f=some r): Calls prog 186 #[v1] c0.w (aR c0 fun c v=>∃k,∃G_:Gm,Own c G_ (F)/\Rel c r.1 G_/\v=k/\Pt 0 c k r.2):=by
 unfold tV at H;refine en func186 rfl rfl (sr (va (.pointer none) (wln (sr (va (v1) (bn H fun j p H=>cl (Ek l m (hG.le (by decide)) f o p) ?_))))));rintro v13 e t ⟨v4,v6,g,h,d,rfl,q,s⟩;refine va (.tuple #[v4,v6]) (va (v4) (va (v6) (va (v4) (va (v6) (wln (W.seq (sr (va (v6) (vr (B (!j.2.2.isNil)) (by rcases (s).cs with ⟨a,b⟩|⟨n,a,b⟩|⟨n,a,b⟩ <;> (subst a; rw [b]; kernel_rfl)) (wln (cn H (fun i H=>?_) (fun i H=>?_))))))))))))
 ·refine sr (va (.pointer none) (wln (W.ret (thr ?_))));cases H;exact r1 (qq e ⟨(.pointer none),g,h,d,rfl,rfl⟩)
 refine W.skip (nrm (sr (vv (v4) (wln (W.ret ?_)))));cases H;exact r1 (qq e ⟨v4,g,h,d,rfl,q⟩)
def jT (sg:Sto) (p0:Option Nat) (p1:Int):Option (Sto×(Option Nat)):=
 if p0.isNone=true then
 some (sg,(none:Option Nat))
 else
 (eN sg p0).bind fun c=>
 (bS sg p0).bind fun d=>
 (pf c (aB (aE 1 (aB p1 1024)) d)).bind fun a=>
 (eI (w64 ((aE 1 (aB p1 1024))-(a.length:Int)))).bind fun e=>
 (app a e).bind fun f=>
 (tV sg f).bind fun b=>
 some (b.1,b.2)
theorem yw (o:Own c0 G F) (f:Rel c0 sg G) (hG:Gl [2,4] c0) (b:Option Nat) (a:Int){r:Sto×(Option Nat)}(j:Pt 0 c0 v1 b) (H:jT sg b a=some r): Calls prog 120 #[v1,I a] c0.w (aR c0 fun c v=>∃y1,∃G_:Gm,Own c G_ (F)/\Rel c r.1 G_/\v=y1/\Pt 0 c y1 r.2):=by
 unfold jT at H;refine en func120 rfl rfl (sr (va (.pointer none) (wln (W.seq (sr (va (v1) (vr (B b.isNone) (by rcases (j).cs with ⟨g,i⟩|⟨b_,g,i⟩ <;> (subst g; rw [i]; kernel_rfl)) (wln (cn H (fun h3 H=>?_) (fun h3 H=>?_))))))))))
 ·refine sr (va (.pointer none) (wln (W.ret (thr ?_))));cases H;exact r1 (qq c0 ⟨(.pointer none),G,o,f,rfl,rfl⟩)
 refine W.skip (nrm (sr (va (I a) (va (I (aB a 1024)) (vv (I (aE 1 (aB a 1024))) (wln (sr (va (v1) (bn H fun k h4 H=>cl (lH o f b j h4) ?_)))))))));rintro v5 k0 u0 ⟨_,u6,O9,rfl,h7⟩;refine va (I (aE 1 (aB a 1024))) (va (v1) (bn H fun d E H=>cl (cK O9 f.m b j.m E) ?_));rintro v20 l0 v0 ⟨p,rfl⟩;refine va (I (aB (aE 1 (aB a 1024)) d)) (bn H fun e M H=>cl (CL k (aB (aE 1 (aB a 1024)) d) p h7.m M) ?_);rintro v23 m0 w0 ⟨_,c1,q,rfl,h⟩;refine va (v23) (wln (sr (va (v23) (va (I (aE 1 (aB a 1024))) (va (v23) (vx (lnO 3 cy h) (va (I (w64 ((aE 1 (aB a 1024))-(e.length:Int)))) (bn H fun i0 N H=>cl (km q (w64 ((aE 1 (aB a 1024))-(e.length:Int))) N) ?_))))))));rintro v33 o0 x0 ⟨_,d1,s,rfl,P⟩;obtain ⟨q0,S,y0,t,R⟩:=s.frz 0 rfl P;refine WL.gh S (bn H fun l T H=>me (ap ah (.agg #[I 0,Y]) 32 46 1 t h.m R T cy) ?_);rintro v51 s0 z0 ⟨e1,u,U⟩;obtain ⟨t0,Z,a1,x,X⟩:=u.frz 1 rfl U;refine WL.gh Z (bn H fun j0 a0 H=>cl (Em x f.m (hG.m.le (by decide)) l X a0) ?_);rintro v57 D b1 ⟨_,n,y,A,rfl,b0⟩;refine va (v57) (wln (W.ret ?_));cases H;have z:=y.sD 2 [];exact r1 (qq D ⟨v57,n,z,A,rfl,b0⟩)
def lx (sg:Sto) (p0:Option Nat) (p1:Int) (p2:Int):Option (Sto):=
 (orE p0.isNone ((p0).bind fun u=>
 (sg.place_Pen[u]?).bind fun v=>
 some v.G.isNone)).bind fun t=>
 if t=true then
 some sg
 else
 (p0).bind fun l=>
 (sg.place_Pen[l]?).bind fun e=>
 (cr sg e.G).bind fun o=>
 (bQ sg e.G).bind fun p=>
 (gu e.At o p).bind fun b=>
 (mV sg (aE 1 (aB p1 1024)) (aE 1 (aB p2 1024))).bind fun c=>
 (cL (σ:=Int×Sto) (τ:=Sto) (((aE 1 (aB p2 1024))-0).toNat+1) (fun a=>
 if (decide (a.1<(aE 1 (aB p2 1024))))=true then
 ((p0).bind fun m=>
 (a.2.place_Pen[m]?).bind fun n=>
 (bF a.2 n.G (w64 ((aE 0 (w64 ((w64 (b.Row-(aE 1 (aB p2 1024))))+1)))+a.1))).bind fun j=>
 if (!j.isNone)=true then
 (jT a.2 j (aE 1 (aB p1 1024))).bind fun k=>
 (eO k.1 c.2 a.1 k.2).bind fun q=>
 some (q.1)
 else
 some (a.2)).bind fun s=>
 some (.inl ((w64 (a.1+1)),s))
 else
 some (.inr (a.2))) (0,c.1)).bind fun i=>
 (p0).bind fun d=>
 (i.place_Pen[d]?).bind fun f=>
 (i.set_place_Pen d (⟨c.2,f.At,f.Auto⟩:bv)).bind fun h=>
 (jq (w64 (b.Row-(aE 0 (w64 ((w64 (b.Row-(aE 1 (aB p2 1024))))+1))))) b.Col (aE 1 (aB p1 1024)) (aE 1 (aB p2 1024))).bind fun r=>
 (h.set_place_Pen d (⟨c.2,r,f.Auto⟩:bv)).bind fun g=>
 some g
theorem xd (O0:Own c0 G F) (z:Rel c0 sg G) (hG:Gl [2,4] c0) (p0:Option Nat) (o:Int) (b:Int){r:Sto}(h2:Pt 2 c0 v1 p0) (H:lx sg p0 o b=some r): Calls prog 75 #[v1,I o,I b] c0.w (aR c0 fun c v=>∃G_:Gm,Own c G_ (F)/\Rel c r G_/\v= .tuple #[]):=by
 unfold lx at H;refine en func75 rfl rfl (W.seq (W.seq (bn H fun q5 h3 H=>W.join (Jn c0 fun c l=>Own c G (F)/\l= [(0,v1),(1,I o),(2,I b),(19,B q5)]) ?_ ?_)))
 ·clear H;refine W.region (va (v1) (vr (B p0.isNone) (by rcases (h2).cs with ⟨t,u⟩|⟨b_,t,u⟩ <;> (subst t; rw [u]; kernel_rfl)) ?_));rcases bo (p0.isNone) with h4|h4
  ·obtain rfl:=orT h4 h3;exact vb h4 (pz (pz (ps (va (B true) (wln (jn c0 ⟨O0,rfl⟩))))))
  have H5:=orF h4 h3;refine vb h4 (wa (v1) (wn (bn H5 fun g8 h8 H5=>?_)));obtain ⟨b6,rfl,h7⟩:=(h2).get h8;refine va (Q b6) (wa (Q b6) (wn (bn H5 fun k2 h9 H5=>?_)));obtain ⟨v10,t5,s5⟩:=Rel.open_place_Pen z h9 h7;refine vx (le1 0 fp (O0.gon t5 0 rfl)) (wn (vr (B k2.G.isNone) (by rcases (s5).cs with ⟨t,u⟩|⟨b_,t,u⟩ <;> (subst t; rw [u]; kernel_rfl)) ?_));cases H5;exact va (B k2.G.isNone) (wln (jn c0 ⟨O0,rfl⟩))
 rintro e_ w_ ⟨c2,f8,_,rfl,Z,rfl,m1,rfl⟩;refine nrm (cn H (fun u5 H=>?_) (fun u5 H=>?_))
 ·refine W.ret (thr ?_);cases H;exact r0 (qq c2 ⟨G,m1,z.m,rfl⟩)
 refine W.skip (nrm (sr (va (I o) (va (I (aB o 1024)) (va (I (aE 1 (aB o 1024))) (va (I b) (va (I (aB b 1024)) (va (I (aE 1 (aB b 1024))) (va (I (aE 1 (aB o 1024))) (va (I (aE 1 (aB b 1024))) (wln (W.seq (bn H fun i7 v5 H=>bn H fun h w5 H=>bn H fun D g2 H=>bn H fun E x0 H=>bn H fun a X H=>W.join (Jn c2 fun c l=>∃n,Own c G ((Eb n 29 [I a.Row,I a.Col,B a.Pending])::F)/\l= [(0,v1),(1,I (aE 1 (aB o 1024))),(2,I (aE 1 (aB b 1024))),(6,Q n)]) ?_ ?_)))))))))))))
 ·clear H;refine rD [] (Kp G []) m1 ?_;intro g5 j2 k0;have f1:Kp G [] g5:=(Kp.nil k0);refine ta 0 (v1) ?_;obtain ⟨s,rfl,y5⟩:=((h2.mono (Z.trans j2))).get v5;refine ta 1 (Q s) (ta 2 (Qo s 1) ?_);obtain ⟨v31,y0,M⟩:=Rel.open_place_Pen (z.mono (Z.trans j2)) w5 y5;refine tkx 3 f1 (fun c' i2 hk=>leN 29 1 [I h.At.Row,I h.At.Col,B h.At.Pending] (hk.gon y0 0 rfl)) (ta 4 (Q s) (ta 5 (Q s) (ta 6 (Q s) (tkx 7 f1 (fun c' i2 hk=>le1 0 fp (hk.gon y0 0 rfl)) (ta 9 (Q s) (ta 10 (Q s) (ta 11 (Q s) (tkx 12 f1 (fun c' i2 hk=>le1 0 fp (hk.gon y0 0 rfl)) (mn2 8 15 ?_ ?_)))))))))
  ·refine gc 8 (cS k0 z.m h.G M g2) ?_;rintro v39 h5 i8 ⟨l0,rfl⟩;have z5:Kp G [] h5:=(Kp.nil l0);refine ⟨.inr z5,mn2 13 15 ?_ ?_⟩
   ·refine gc 13 (bM l0 z.m h.G M.m x0) ?_;rintro v46 i5 j8 ⟨m0,rfl⟩;have a6:Kp G [] i5:=(Kp.nil m0);refine ⟨.inr a6,mn2 14 15 ?_ ?_⟩
    ·refine gc 14 (eJ m0 h.At D E X) ?_;rintro v53 j5 k8 ⟨n1,rfl⟩;have c6:Kp G [] j5:=(Kp.nil n1);refine ⟨.inr c6,o1 15 (gm 15 (al 29 [I 0,I 0,B false] n1) ?_)⟩;rintro v58 k5 l8 ⟨a5,rfl,q1⟩;have d6:Kp G [] k5:=(Kp.nil q1);refine ⟨.inr d6,o1 16 (gD 16 (sA 29 [I a.Row,I a.Col,B a.Pending] 0 q1 ⟨rfl,rfl,rfl,trivial⟩) ?_)⟩;rintro d2 m8 s1;have e6:Kp G [] d2:=(Kp.nil s1);exact ⟨.inr e6,dn (nrm (jn d2 ⟨a5,s1,rfl⟩))⟩
    refine gm 15 (al 29 [I 0,I 0,B false] m0) ?_;rintro u8 l5 n8 ⟨c5,rfl,t1⟩;have f6:Kp G [] l5:=(Kp.nil t1);refine ⟨.inr f6,o1 14 (gc 14 (eJ t1 h.At D E X) ?_)⟩;rintro v8 m5 o8 ⟨u1,rfl⟩;have g6:Kp G [] m5:=(Kp.nil u1);refine ⟨.inr g6,o1 16 (gD 16 (sA 29 [I a.Row,I a.Col,B a.Pending] 0 u1 ⟨rfl,rfl,rfl,trivial⟩) ?_)⟩;rintro e2 p8 w1;have h6:Kp G [] e2:=(Kp.nil w1);exact ⟨.inr h6,dn (nrm (jn e2 ⟨c5,w1,rfl⟩))⟩
   refine gm 15 (al 29 [I 0,I 0,B false] l0) ?_;rintro w8 n5 q8 ⟨d5,rfl,x1⟩;have i6:Kp G [] n5:=(Kp.nil x1);refine ⟨.inr i6,o1 13 (gc 13 (bM x1 z.m h.G M.m x0) ?_)⟩;rintro x8 o5 r8 ⟨y1,rfl⟩;have j6:Kp G [] o5:=(Kp.nil y1);refine ⟨.inr j6,o1 14 (gc 14 (eJ y1 h.At D E X) ?_)⟩;rintro y8 p5 s8 ⟨z1,rfl⟩;have k6:Kp G [] p5:=(Kp.nil z1);refine ⟨.inr k6,o1 16 (gD 16 (sA 29 [I a.Row,I a.Col,B a.Pending] 0 z1 ⟨rfl,rfl,rfl,trivial⟩) ?_)⟩;rintro f2 t8 b2;have l6:Kp G [] f2:=(Kp.nil b2);exact ⟨.inr l6,dn (nrm (jn f2 ⟨d5,b2,rfl⟩))⟩
  refine gm 15 (al 29 [I 0,I 0,B false] k0) ?_;rintro v7 l3 l7 ⟨k3,rfl,d0⟩;have q4:Kp G [] l3:=(Kp.nil d0);refine ⟨.inr q4,o1 8 (gc 8 (cS d0 z.m h.G M.m g2) ?_)⟩;rintro w7 m3 m7 ⟨e0,rfl⟩;have r4:Kp G [] m3:=(Kp.nil e0);refine ⟨.inr r4,o1 13 (gc 13 (bM e0 z.m h.G M.m x0) ?_)⟩;rintro x7 n3 n7 ⟨f0,rfl⟩;have s4:Kp G [] n3:=(Kp.nil f0);refine ⟨.inr s4,o1 14 (gc 14 (eJ f0 h.At D E X) ?_)⟩;rintro y7 o3 o7 ⟨g0,rfl⟩;have t4:Kp G [] o3:=(Kp.nil g0);refine ⟨.inr t4,o1 16 (gD 16 (sA 29 [I a.Row,I a.Col,B a.Pending] 0 g0 ⟨rfl,rfl,rfl,trivial⟩) ?_)⟩;rintro s0 p7 h0;have u4:Kp G [] s0:=(Kp.nil h0);exact ⟨.inr u4,dn (nrm (jn s0 ⟨k3,h0,rfl⟩))⟩
 rintro e_ w_ ⟨t6,y6,_,rfl,b1,rfl,n,i0,rfl⟩;refine nrm (sr (va (Q n) (vx (le1 0 u_3 (i0.on 0 rfl)) (va (I (aE 1 (aB b 1024))) (va (I (w64 (a.Row-(aE 1 (aB b 1024))))) (va (I (w64 ((w64 (a.Row-(aE 1 (aB b 1024))))+1))) (vv (I (aE 0 (w64 ((w64 (a.Row-(aE 1 (aB b 1024))))+1)))) (wln (sr (va (I (aE 1 (aB o 1024))) (va (I (aE 1 (aB b 1024))) (bn H fun w4 u3 H=>cl (wK i0 z.m (aE 1 (aB o 1024)) (aE 1 (aB b 1024)) u3) ?_))))))))))));rintro q R c1 ⟨_,l2,t2,d3,q6,rfl,y⟩;refine va (q) (wln (W.seq (sr (va (I (aE 1 (aB b 1024))) (va (I 0) (wln (W.block (bn H fun u7 u0 g=>lp u0 (fun f=>Jn R fun c l=>∃G_,Own c G_ ((Eb n 29 [I a.Row,I a.Col,B a.Pending])::F)/\l= [(0,v1),(1,I (aE 1 (aB o 1024))),(2,I (aE 1 (aB b 1024))),(6,Q n),(7,I (aE 0 (w64 ((w64 (a.Row-(aE 1 (aB b 1024))))+1)))),(8,q),(50,I (aE 1 (aB b 1024))),(51,I f.1)]/\Rel c f.2 G_) (fun i1 ex e w=>ex= .exit 0/\(Jn R fun c l=>∃G_,Own c G_ ((Eb n 29 [I a.Row,I a.Col,B a.Pending])::F)/\l= [(0,v1),(1,I (aE 1 (aB o 1024))),(2,I (aE 1 (aB b 1024))),(6,Q n),(7,I (aE 0 (w64 ((w64 (a.Row-(aE 1 (aB b 1024))))+1)))),(8,q)]/\Rel c i1 G_) e w) ?_ ?_ ?_))))))))
 ·clear g u0;intro f z8 r5 m6 H;revert r5 m6;rintro e_ w_ ⟨t0,z6,_,rfl,o4,rfl,a0,N,rfl,x⟩;refine sr (va (B (decide (f.1<(aE 1 (aB b 1024))))) (wln (W.seq (cn H (fun v3 H=>?_) (fun v3 H=>?_)))))
  ·refine W.skip (nrm (bn H fun y4 d q2=>W.seqJ (Jn t0 fun c l=>∃G_,Own c G_ ((Eb n 29 [I a.Row,I a.Col,B a.Pending])::F)/\l= [(0,v1),(1,I (aE 1 (aB o 1024))),(2,I (aE 1 (aB b 1024))),(6,Q n),(7,I (aE 0 (w64 ((w64 (a.Row-(aE 1 (aB b 1024))))+1)))),(8,q),(50,I (aE 1 (aB b 1024))),(51,I f.1)]/\Rel c y4 G_) ?_ ?_))
   ·refine W.block (sr (vv (I f.1) (wln (sr (va (v1) (bn d fun j7 x3 d=>?_))))));obtain ⟨q0,rfl,w3⟩:=((h2.mono (Z.trans (b1.trans (c1.trans o4))))).get x3;refine vv (Q q0) (bn d fun p4 y3 d=>?_);obtain ⟨z7,a4,z3⟩:=Rel.open_place_Pen x y3 w3;refine vx (le1 0 fp (N.gon a4 0 rfl)) (va (I (aE 0 (w64 ((w64 (a.Row-(aE 1 (aB b 1024))))+1)))) (va (I f.1) (va (I (w64 ((aE 0 (w64 ((w64 (a.Row-(aE 1 (aB b 1024))))+1)))+f.1))) (bn d fun g1 b4 d=>cl (db N x p4.G (w64 ((aE 0 (w64 ((w64 (a.Row-(aE 1 (aB b 1024))))+1)))+f.1)) z3 b4) ?_))));rintro U p3 q7 ⟨_,j0,rfl,v0⟩;refine va (U) (wln (sr (va (U) (vr (B (!g1.isNone)) (by rcases (v0).cs with ⟨t,u⟩|⟨b_,t,u⟩ <;> (subst t; rw [u]; kernel_rfl)) (wln (cn d (fun c4 d=>?_) (fun c4 d=>?_)))))))
    ·refine W.region (va (q) (va (I f.1) (va (U) (va (I (aE 1 (aB o 1024))) (bn d fun x4 d4 d=>cl (yw j0 x.m (hG.m.le (by decide)) g1 (aE 1 (aB o 1024)) v0 d4) ?_)))));rintro a8 u6 r7 ⟨_,n6,u2,e3,rfl,e4⟩;refine bn d fun e8 f4 d=>cl (ql u2 e3 w4.2 f.1 x4.2 y.m e4 f4) ?_;rintro b8 q3 s7 ⟨m2,v2,f3,rfl⟩;refine WL.nil (bkn (nrm ?_));cases d;exact jn q3 ⟨m2,v2,rfl,f3⟩
    refine W.skip (bkn (nrm ?_));cases d;exact jn p3 ⟨a0,j0,rfl,x.m⟩
   rintro e_ w_ ⟨s3,a7,_,rfl,t7,rfl,n2,w2,rfl,g3⟩;refine W.region (vv (I (w64 (f.1+1))) (WL.nil ?_));cases q2;exact ⟨_,rfl,jn s3 ⟨n2,w2,rfl,g3⟩⟩
  refine W.exit (thx ?_);cases H;exact ⟨_,rfl,rfl,jn t0 ⟨a0,N,rfl,x⟩⟩
 ·exact jn R ⟨l2,t2,rfl,d3⟩
 rintro _ e_ w_ ⟨rfl,v6,b7,_,rfl,A,rfl,o6,x2,rfl,o0⟩;refine bke (nrm (sr (va (v1) (va (q) (bn g fun k7 g4 g=>?_)))));obtain ⟨j,rfl,S⟩:=((h2.mono (Z.trans (b1.trans (c1.trans A))))).get g4;refine vv (Q j) ?_;obtain ⟨p,rfl⟩:=((y.mono A)).form;refine bn g fun i i4 g=>?_;obtain ⟨c8,j4,c7⟩:=Rel.open_place_Pen o0 i4 S;refine md (gC 124 0 (.pointer p) [.pointer p,I i.At.Row,I i.At.Col,B i.At.Pending,B i.Auto] 0 x2 j4 ⟨y.m.one,trivial⟩) ?_;rintro w6 T y2;refine bn g fun z4 l4 g=>?_;obtain ⟨p6,P,i3,k4,r6⟩:=Rel.put_place_Pen y2 (o0.mono T) (E':=[(Eb j 126 [.pointer p,I i.At.Row,I i.At.Col,B i.At.Pending,B i.Auto])]) l4 ⟨j,(.pointer p),(tm S),rfl,(y.mono (A.trans T))⟩;refine wln (W.region (va (Q j) (va (Q n) (vx (le1 0 u_3 (P.on 0 rfl)) (va (I (aE 0 (w64 ((w64 (a.Row-(aE 1 (aB b 1024))))+1)))) (va (I (w64 (a.Row-(aE 0 (w64 ((w64 (a.Row-(aE 1 (aB b 1024))))+1)))))) (va (Qo n 1) (vx (le1 1 u_3 (P.on 0 rfl)) (va (I (aE 1 (aB o 1024))) (va (I (aE 1 (aB b 1024))) (bn g fun k m4 g=>cl (sO P (w64 (a.Row-(aE 0 (w64 ((w64 (a.Row-(aE 1 (aB b 1024))))+1))))) a.Col (aE 1 (aB o 1024)) (aE 1 (aB b 1024)) m4) ?_)))))))))));rintro d8 x6 d1 ⟨z2,rfl⟩;refine va (Q j) (va (Qo j 1) (md (gB 29 1 [I k.Row,I k.Col,B k.Pending] [.pointer p,I k.Row,I k.Col,B k.Pending,B i.Auto] 0 z2 k4 ⟨rfl,rfl,rfl,trivial⟩) ?_));rintro t3 e1 a3;refine bn g fun v4 n4 g=>?_;obtain ⟨o2,b3,j3,d7,s6⟩:=Rel.put_place_Pen a3 (i3.mono (d1.trans e1)) (E':=[(Eb j 126 [.pointer p,I k.Row,I k.Col,B k.Pending,B i.Auto])]) n4 ⟨j,(.pointer p),(tm S),rfl,(y.mono (A.trans (T.trans (d1.trans e1))))⟩;refine WL.nil ?_;cases g;have c3:=b3.sD 1 [];exact n0 (qq t3 ⟨o2,c3,j3,rfl⟩)
def eo (p0:List ab) (p1:Int):Option (List ab):=
 (rep (aE 1 (aB p1 1024)) (⟨0,([]:List Int)⟩:ab)).bind fun i=>
 (cL (σ:=(List ab)×Int) (τ:=(List ab)) (((aE 1 (aB p1 1024))-0).toNat+1) (fun a=>
 (bT (decide (a.2<(aE 1 (aB p1 1024)))) (some (decide (a.2<(p0.length:Int))))).bind fun b=>
 if b=true then
 ((orE (decide ((w64 (a.2+1))<(aE 1 (aB p1 1024)))) ((idx p0 a.2).bind fun f=>
 some (f.Kind != 2))).bind fun c=>
 if c=true then
 (idx p0 a.2).bind fun g=>
 (idx a.1 a.2).bind fun j=>
 (pJ a.1 a.2 g).bind fun e=>
 some (e)
 else
 some (a.1)).bind fun h=>
 some (.inl (h,(w64 (a.2+1))))
 else
 some (.inr (a.1))) (i,0)).bind fun d=>
 some d
theorem pY (O0:Own c0 G F) (Z:List ab) (d:Int){r:List ab}(N:Sl ah c0 v1 Z) (H:eo Z d=some r): Calls prog 138 #[v1,I d] c0.w (aR c0 fun c v=>∃y1 y2,Own c G (es true ah y1 114 y2 r::F)/\v=y1/\OA ah c y1 y2 r):=by
 unfold eo at H;refine en func138 rfl rfl (sr (va (Y) (wln (sr (va (I d) (va (I (aB d 1024)) (vv (I (aE 1 (aB d 1024))) (wln (sr (va (I (aE 1 (aB d 1024))) (bn H fun v2 h3 H=>me (Own.mkS (kl:= .i64) (kc:= .i64) (R:=ah) (z:= .agg #[I 0,Y]) (lz:=[I 0,Y]) (x:=(⟨0,([]:List Int)⟩:ab)) (by_:=32) (i:=(aE 1 (aB d 1024))) (j:=(aE 1 (aB d 1024))) true O0 (aN _) h3 (pG _) (sW h3) cy (by kernel_rfl) rfl rfl (fun _=>⟨(Y),rfl,(Sl.nl _ _)⟩) (by kernel_rfl) (by kernel_rfl)) ?_)))))))))));rintro v8 c7 l7 ⟨u5,O4,h6⟩;refine va (v8) (wln (W.seq (sr (va (I 0) (wln (W.block (bn H fun g2 h9 b0=>lp h9 (fun a=>Jn c7 fun c l=>∃v11 f,Own c G (es true ah v11 114 f a.1::F)/\l= [(0,v1),(1,I (aE 1 (aB d 1024))),(5,v11),(6,I a.2)]/\OA ah c v11 f a.1) (fun p ex e w=>ex= .exit 0/\(Jn c7 fun c l=>∃v13 q,Own c G (es true ah v13 114 q p::F)/\l= [(5,v13)]/\OA ah c v13 q p) e w) ?_ ?_ ?_)))))))
 ·clear b0 h9;intro a w2 b1 x1 H;revert b1 x1;rintro X w_ ⟨M,l2,_,rfl,j0,rfl,v11,f,d0,rfl,o⟩;refine W.seq (W.seq (bn H fun m0 f0 H=>W.join (Jn M fun c l=>Own c G (es true ah v11 114 f a.1::F)/\l= [(0,v1),(1,I (aE 1 (aB d 1024))),(5,v11),(6,I a.2),(20,B m0)]) ?_ ?_))
  ·clear H;refine W.region (va (I a.2) (va (I (aE 1 (aB d 1024))) (va (B (decide (a.2<(aE 1 (aB d 1024))))) ?_)));rcases bo (decide (a.2<(aE 1 (aB d 1024)))) with h|h
   ·have s0:=anT h f0;refine vb h (wa (I a.2) (wa (v1) (wn (vx (ln 3 cy N.m) (wa (B (decide (a.2<(Z.length:Int)))) ?_)))));cases s0;exact va (B (decide (a.2<(Z.length:Int)))) (wln (jn M ⟨d0,rfl⟩))
   obtain rfl:=anF h f0;exact vb h (pz (pz (va (B false) (wln (jn M ⟨d0,rfl⟩)))))
  rintro X w_ ⟨g,m2,_,rfl,k0,rfl,y,rfl⟩;refine nrm (cn H (fun d1 H=>?_) (fun d1 H=>?_))
  ·refine W.skip (nrm (bn H fun U b t0=>W.seqJ (Jn g fun c l=>∃v34 s,Own c G (es true ah v34 114 s U::F)/\l= [(0,v1),(1,I (aE 1 (aB d 1024))),(5,v34),(6,I a.2)]/\OA ah c v34 s U) ?_ ?_))
   ·refine W.block (W.seq (bn b fun o0 g0 b=>W.join (Jn g fun c l=>Own c G (es true ah v11 114 f a.1::F)/\l= [(0,v1),(1,I (aE 1 (aB d 1024))),(5,v11),(6,I a.2),(34,B o0)]) ?_ ?_))
    ·clear b;refine W.region (va (I a.2) (va (I (w64 (a.2+1))) (va (I (aE 1 (aB d 1024))) (va (B (decide ((w64 (a.2+1))<(aE 1 (aB d 1024))))) ?_))));rcases bo (decide ((w64 (a.2+1))<(aE 1 (aB d 1024)))) with k|k
     ·obtain rfl:=orT k g0;exact vb k (pz (pz (pz (va (B true) (wln (jn g ⟨y,rfl⟩))))))
     have t:=orF k g0;refine vb k (wa (v1) (wa (I a.2) (wn (bn t fun S h0 t=>?_))));obtain ⟨e2,e1,t1⟩:=Sl.at (N.mono (l7.trans (j0.trans k0))) (aU h0);obtain ⟨v43,rfl,q2⟩:=e1;refine vx (ix cy N.m h0) (wa (Qo (sb v1) (so v1+a.2.toNat*2)) (wn (vx (l1 u_3 (t1 0 _ rfl)) (wa (B (S.Kind != 2)) ?_))));cases t;exact va (B (S.Kind != 2)) (wln (jn g ⟨y,rfl⟩))
    rintro X w_ ⟨x0,n2,_,rfl,q1,rfl,e0,rfl⟩;refine nrm (cn b (fun f1 b=>?_) (fun f1 b=>?_))
    ·refine W.region (va (v11) (va (I a.2) (va (v1) (va (I a.2) (bn b fun n i0 b=>?_)))));obtain ⟨f2,g1,u1⟩:=Sl.at (N.mono (l7.trans (j0.trans (k0.trans q1)))) (aU i0);obtain ⟨v56,rfl,P⟩:=g1;refine vx (ix cy N.m i0) (vx (lN 114 u1) (bn b fun k2 h1 b=>vx (ixO cy o.m h1) ?_));obtain ⟨A,D,E,rfl⟩:=(P).form;refine bn b fun j2 i1 b=>md (Own.stW (R:=ah) (T:=114) (us:=[I n.Kind,.slice A D E]) (x':=n) (u:= .agg #[I n.Kind,.slice A D E]) 0 e0 (by kernel_rfl) rfl o.m i1 rfl (by kernel_rfl) ⟨rfl,P.one,trivial⟩ rfl ⟨(.slice A D E),rfl,P⟩) ?_;rintro y0 s2 ⟨w1,u0,j1⟩;refine WL.nil (bkn (nrm ?_));cases b;exact jn y0 ⟨v11,w1,u0,rfl,j1⟩
    refine W.skip (bkn (nrm ?_));cases b;exact jn x0 ⟨v11,f,e0,rfl,o.m⟩
   rintro X w_ ⟨z0,o2,_,rfl,t2,rfl,v34,s,v0,rfl,k1⟩;refine W.region (va (I a.2) (vv (I (w64 (a.2+1))) (WL.nil ?_)));cases t0;exact ⟨_,rfl,jn z0 ⟨v34,s,v0,rfl,k1⟩⟩
  refine W.exit (thx ?_);cases H;exact ⟨_,rfl,rfl,jn g ⟨v11,f,y,rfl,o.m⟩⟩
 ·exact jn c7 ⟨v8,u5,O4,rfl,h6⟩
 rintro _ X w_ ⟨rfl,a1,p2,_,rfl,u2,rfl,v13,q,w0,rfl,m1⟩;refine bke (nrm (sr (vv (v13) (wln (W.ret ?_)))));cases b0;exact r1 (qq a1 ⟨v13,q,w0,rfl,m1⟩)
def dx (p0:aa) (p1:Int) (p2:Int):Option (aa):=
 (cp p0).bind fun d=>
 (ck p1).bind fun f=>
 (ck p2).bind fun c=>
 (cL (σ:=(List aj)×Int) (τ:=((List aj)×Int)) ((d.At.Row-c).toNat+2) (fun a=>
 if (decide (a.2>=c))=true then
 (slc a.1 1 a.1.length).bind fun h=>
 some (.inl (h,(w64 (a.2-1))))
 else
 some (.inr (a.1,a.2))) (d.L,d.At.Row)).bind fun e=>
 (cL (σ:=(List aj)×Int) (τ:=(List aj)) ((c-0).toNat+1) (fun b=>
 if (decide (b.2<c))=true then
 (if (decide (b.2<(e.1.length:Int)))=true then
 (idx e.1 b.2).bind fun i=>
 some (i.Cells)
 else
 some (([]:List ab))).bind fun l=>
 (eo l f).bind fun j=>
 (app b.1 ([(⟨j,false⟩:aj)]:List aj)).bind fun k=>
 some (.inl (k,(w64 (b.2+1))))
 else
 some (.inr (b.1))) (([]:List aj),0)).bind fun g=>
 some (⟨g,(⟨e.2,(aB d.At.Col (w64 (f-1))),false⟩:ai),d.Auto⟩:aa)
theorem pX (O0:Own c0 G F) (j:aa) (p1:Int) (p2:Int){r:aa}(h2:Sl am c0 v1 j.L) (H:dx j p1 p2=some r): Calls prog 89 #[.agg #[v1,I j.At.Row,I j.At.Col,B j.At.Pending,B j.Auto],I p1,I p2] c0.w (aR c0 fun c v=>∃y1 y2,Own c G (es true am y1 48 y2 r.L::F)/\v= .agg #[y1,I r.At.Row,I r.At.Col,B r.At.Pending,B r.Auto]/\OA am c y1 y2 r.L):=by
 unfold dx at H;refine en func89 rfl rfl (sr ?_);obtain ⟨a3,a4,a5,rfl⟩:=(h2).form;refine me (al 31 [.slice a3 a4 a5,I j.At.Row,I j.At.Col,B j.At.Pending,B j.Auto] O0) ?_;rintro v9 c8 l8 ⟨o,rfl,O7⟩;refine me (al 31 [Y,I 0,I 0,B false,B false] O7) ?_;rintro v13 s4 e5 ⟨i,rfl,a1⟩;refine wln (sr (vx (leN 31 0 [.slice a3 a4 a5,I j.At.Row,I j.At.Col,B j.At.Pending,B j.Auto] (a1.on 1 rfl)) (bn H fun a c3 H=>cl (dG a1 j h2.m c3) ?_)));rintro v22 t4 f5 ⟨v15,l2,rfl,m0⟩;obtain ⟨q,s,t,rfl⟩:=(m0).form;refine md (sA 31 [.slice q s t,I a.At.Row,I a.At.Col,B a.At.Pending,B a.Auto] 1 l2 ⟨m0.one,rfl,rfl,rfl,rfl,trivial⟩) ?_;rintro u4 g5 m2;refine wln (sr (va (I p1) (bn H fun f e3 H=>cl (dZ m2 p1 e3) ?_)));rintro v34 v4 h5 ⟨n2,rfl⟩;refine va (I f) (wln (sr (va (I p2) (bn H fun g f3 H=>cl (dZ n2 p2 f3) ?_))));rintro v41 w4 i5 ⟨g0,rfl⟩;refine va (I g) (wln (sr (va (Q o) (vx (le1 0 fm (g0.on 1 rfl)) (va (.slice q s t) (wln (sr (va (Qo o 1) (vx (leN 29 1 [I a.At.Row,I a.At.Col,B a.At.Pending] (g0.on 1 rfl)) (me (al 29 [I 0,I 0,B false] g0) ?_))))))))));rintro v45 x4 j5 ⟨d,rfl,o2⟩;refine md (sA 29 [I a.At.Row,I a.At.Col,B a.At.Pending] 0 o2 ⟨rfl,rfl,rfl,trivial⟩) ?_;rintro j0 k5 q2;refine wln (W.seq (W.block (bn H fun h b1 p=>lp b1 (fun n=>Jn j0 fun c l=>∃v50,Own c G ((Eb d 29 [I n.2,I a.At.Col,B a.At.Pending])::(Eb i 31 [Y,I 0,I 0,B false,B false])::(Eb o 31 [.slice q s t,I a.At.Row,I a.At.Col,B a.At.Pending,B a.Auto])::F)/\l= [(1,I f),(2,I g),(3,Q o),(6,Q i),(7,v50),(8,Q d)]/\Sl am c v50 n.1) (fun a0 ex e w=>ex= .exit 0/\(Jn j0 fun c l=>∃v51,Own c G ((Eb d 29 [I a0.2,I a.At.Col,B a.At.Pending])::(Eb i 31 [Y,I 0,I 0,B false,B false])::(Eb o 31 [.slice q s t,I a.At.Row,I a.At.Col,B a.At.Pending,B a.Auto])::F)/\l= [(1,I f),(2,I g),(3,Q o),(6,Q i),(7,v51),(8,Q d)]/\Sl am c v51 a0.1) e w) ?_ ?_ ?_)))
 ·clear p b1;intro n q3 k0 t0 H;revert k0 t0;rintro e_ w_ ⟨z2,z4,_,rfl,l5,rfl,v50,U,rfl,c1⟩;refine W.seq (sr (va (Q d) (vx (le1 0 u_3 (U.on 0 rfl)) (va (I g) (va (B (decide (n.2>=g))) (wln (cn H (fun g3 H=>?_) (fun g3 H=>?_))))))))
  ·refine W.skip (nrm (W.block (sr (va (v50) (bn H fun p4 h3 H=>?_)))));obtain ⟨s0,i3,j3⟩:=Dn (k:= .i64) fm (by kernel_rfl) c1 h3;refine vr s0 (rx (by kernel_rfl) (i3 _)) (va (s0) (wln (W.region (va (Q d) (vx (le1 0 u_3 (U.on 0 rfl)) (va (I (w64 (n.2-1))) (va (Q d) (md (sC 3 0 (I (w64 (n.2-1))) [I (w64 (n.2-1)),I a.At.Col,B a.At.Pending] 0 U ⟨rfl,trivial⟩) ?_))))))));rintro b3 m5 s2;refine WL.nil (bkn ?_);cases H;exact ⟨_,rfl,jn b3 ⟨s0,s2,rfl,j3.m⟩⟩
  refine W.exit (thx ?_);cases H;exact ⟨_,rfl,rfl,jn z2 ⟨v50,U,rfl,c1⟩⟩
 ·exact jn j0 ⟨(.slice q s t),q2,rfl,m0.m⟩
 rintro _ e_ w_ ⟨rfl,X,b5,_,rfl,n5,rfl,v51,t2,rfl,o0⟩;refine bke (nrm (sr (va (Y) (wln (W.seq (sr (va (I 0) (wln (W.block (bn p fun k4 d1 z0=>lp d1 (fun b=>Jn X fun c l=>∃u M,Own c G (es true am u 48 M b.1::(Eb d 29 [I h.2,I a.At.Col,B a.At.Pending])::(Eb i 31 [Y,I 0,I 0,B false,B false])::(Eb o 31 [.slice q s t,I a.At.Row,I a.At.Col,B a.At.Pending,B a.Auto])::F)/\l= [(1,I f),(2,I g),(3,Q o),(6,Q i),(7,v51),(8,Q d),(9,u),(10,I b.2)]/\OA am c u M b.1) (fun b0 ex e w=>ex= .exit 2/\(Jn X fun c l=>∃N d0,Own c G (es true am N 48 d0 b0::(Eb d 29 [I h.2,I a.At.Col,B a.At.Pending])::(Eb i 31 [Y,I 0,I 0,B false,B false])::(Eb o 31 [.slice q s t,I a.At.Row,I a.At.Col,B a.At.Pending,B a.Auto])::F)/\l= [(1,I f),(3,Q o),(6,Q i),(8,Q d),(9,N)]/\OA am c N d0 b0) e w) ?_ ?_ ?_))))))))))
 ·clear z0 d1;intro b q3 k0 t0 p;revert k0 t0;rintro e_ w_ ⟨Z,c5,_,rfl,o3,rfl,u,M,h0,rfl,e1⟩;refine W.seq (sr (va (I b.2) (va (I g) (va (B (decide (b.2<g))) (wln (cn p (fun k3 p=>?_) (fun k3 p=>?_)))))))
  ·refine W.skip (nrm (W.seq (W.block (sr (va (Y) (wln (bn p fun u0 x E=>W.seqJ (Jn Z fun c l=>∃e0,Own c G (es true am u 48 M b.1::(Eb d 29 [I h.2,I a.At.Col,B a.At.Pending])::(Eb i 31 [Y,I 0,I 0,B false,B false])::(Eb o 31 [.slice q s t,I a.At.Row,I a.At.Col,B a.At.Pending,B a.Auto])::F)/\l= [(1,I f),(2,I g),(3,Q o),(6,Q i),(7,v51),(8,Q d),(9,u),(10,I b.2),(11,e0)]/\Sl ah c e0 u0) ?_ ?_)))))))
   ·refine sr (va (I b.2) (va (v51) (vx (ln 3 fm o0.m) (va (B (decide (b.2<(h.1.length:Int)))) (wln (cn x (fun l3 x=>?_) (fun l3 x=>?_)))))))
    ·refine W.region (va (v51) (va (I b.2) (bn x fun q4 f1 x=>?_)));obtain ⟨j4,m3,p3⟩:=Sl.at (o0.mono o3) (aU f1);obtain ⟨g1,rfl,n3⟩:=m3;refine vx (ix fm o0.m f1) (va (Qo (sb v51) (so v51+b.2.toNat*2)) (vx (l1 cy (p3 0 _ rfl)) (va (g1) (wln ?_))));cases x;exact jn Z ⟨g1,h0,rfl,n3⟩
    refine W.skip (nrm ?_);cases x;exact jn Z ⟨(Y),h0,rfl,(Sl.nl _ _)⟩
   rintro e_ w_ ⟨y4,d5,_,rfl,o5,rfl,e0,u2,rfl,u1⟩;refine W.region (va (u) (va (e0) (va (I f) (bn E fun j2 w1 E=>cl (pY u2 u0 f u1 w1) ?_))));rintro n4 v3 c4 ⟨_,l4,h1,rfl,l0⟩;obtain ⟨P,R,S,rfl⟩:=(l0).form;refine va (.agg #[.slice P R S,B false]) ?_;obtain ⟨w3,z1,d4,i1,x1⟩:=h1.frz 0 rfl l0;refine WL.gh z1 (me (sl am 48 [[.slice P R S,B false]] ([(⟨j2,false⟩:aj)]:List aj) i1 ⟨⟨(.slice P R S),rfl,x1⟩,trivial⟩) ?_);rintro o4 x3 e4 ⟨m4,j1,b2⟩;obtain ⟨y3,d2,f4,k1,c2⟩:=j1.frz 0 rfl b2;refine WL.gh d2 (bn E fun r4 e2 E=>me (ap am (.agg #[Y,B false]) 32 27 2 k1 e1.m c2 e2 fm) ?_);rintro q0 t1 g4 ⟨i2,m1,f2⟩;refine va (q0) (WL.nil (bkn (nrm (W.region (va (I b.2) (vv (I (w64 (b.2+1))) (WL.nil ?_)))))));cases E;refine ⟨_,rfl,?_⟩;have n1:=m1.sD 6 [2,3,4,5];exact jn t1 ⟨q0,i2,n1,rfl,f2⟩
  refine W.exit (thx ?_);cases p;exact ⟨_,rfl,rfl,jn Z ⟨u,M,h0,rfl,e1⟩⟩
 ·have g2:OA am X (Y) [] []:=OA.nil (aN _);have q1:=t2.addHole (e:=es true am (Y) 48 [] ([]:List aj)) rfl;exact jn X ⟨(Y),[],q1,rfl,g2⟩
 rintro _ e_ w_ ⟨rfl,z3,b4,_,rfl,h4,rfl,N,d0,y,rfl,T⟩;refine bke (nrm (sr (va (N) (va (Q d) (vx (le1 0 u_3 (y.on 1 rfl)) (va (Qo d 1) (vx (le1 1 u_3 (y.on 1 rfl)) (va (I f) (va (I (w64 (f-1))) (va (I (aB a.At.Col (w64 (f-1)))) (va (.agg #[I h.2,I (aB a.At.Col (w64 (f-1))),B false]) (va (Qo o 4) (vx (le1 4 u_4 (y.on 3 rfl)) ?_)))))))))))));obtain ⟨z,A,D,rfl⟩:=(T).form;refine va (.agg #[.slice z A D,I h.2,I (aB a.At.Col (w64 (f-1))),B false,B a.Auto]) (md (sA 31 [.slice z A D,I h.2,I (aB a.At.Col (w64 (f-1))),B false,B a.Auto] 2 y ⟨(T).one,rfl,rfl,rfl,rfl,trivial⟩) ?_);rintro i0 i4 f0;refine wln (W.ret ?_);cases z0;have s1:=f0.sD 4 [0];exact kv (c:=i0) (vs:=[.slice z A D,I h.2,I (aB a.At.Col (w64 (f-1))),B false,B a.Auto]) rfl (by kernel_rfl) (by kernel_rfl) (by kernel_rfl) (f0.on 2 rfl _ rfl).1 ⟨_,i0,rfl,rfl,pt,(.slice z A D),d0,s1,rfl,T.m⟩
def nj (p0:Int):Option (Bool):=
 (bT (decide (p0>=2)) (some (decide (p0<=12)))).bind fun a=>
 some a
theorem zS (d:Own c0 G F) (a:Int){r:Bool}(H:nj a=some r): Calls prog 162 #[I a] c0.w (aR c0 fun c v=>Own c G (F)/\v=B r):=by
 unfold nj at H;refine en func162 rfl rfl (sr (va (B false) (wln (W.seq (bn H fun e f H=>W.join (Jn c0 fun c l=>Own c G (F)/\l= [(2,B e)]) ?_ ?_)))))
 ·clear H;refine W.region (va (I a) (va (B (decide (a>=2))) ?_));rcases bo (decide (a>=2)) with b|b
  ·have g:=anT b f;refine vb b (wa (I a) (wa (B (decide (a<=12))) ?_));cases g;exact vv (B (decide (a<=12))) (wln (jn c0 ⟨d,rfl⟩))
  obtain rfl:=anF b f;exact vb b (pz (vv (B false) (wln (jn c0 ⟨d,rfl⟩))))
 rintro j n ⟨i,k,_,rfl,m,rfl,h,rfl⟩;refine nrm (W.ret ?_);cases H;exact r1 (qq i ⟨h,rfl⟩)
def kW (p0:aM):Option (Er):=
 (nj p0.Kind).bind fun d=>
 if (!d)=true then
 some (Er.sent 4)
 else
 (bT (decide (p0.Kind<=4)) (some (p0.Kind != 2))).bind fun a=>
 (bT a ((orE (decide (p0.A<0)) (some (decide (p0.A>2)))).bind fun c=>
 some c)).bind fun b=>
 if b=true then
 some (Er.sent 2)
 else
 some Er.nil
theorem ug (S:Own c0 G F) (hG:Gl [2,4] c0) (a:aM){r:Er}(h2:Sl (RI .u8) c0 v1 a.Bytes) (H:kW a=some r): Calls prog 103 #[.agg #[I a.Kind,I a.A,I a.B,v1]] c0.w (aR c0 fun c v=>∃R,Own c G (F)/\v=R/\RE 350 144 c R r):=by
 unfold kW at H;refine en func103 rfl rfl (sr ?_);obtain ⟨U,X,Z,rfl⟩:=(h2).form;refine me (bx 38 [I a.Kind,I a.A,I a.B,.slice U X Z] S) ?_;rintro v10 c9 P ⟨i,rfl,T,k⟩;refine va (.nilIface) (wln (W.seq (W.block (sr (va (Q i) (vx (l1 u_3 (k 0 _ rfl)) (bn H fun u D H=>cl (zS T a.Kind D) ?_)))))));rintro v17 b l16 ⟨d,rfl⟩;refine vv (B (!u)) (wln (cn H (fun E H=>?_) (fun E H=>?_)))
 ·refine sr ?_;obtain ⟨v19,o⟩:=(hG.mono (P.trans l16)).get 4 (by decide);refine vx (l1 sU o.im) (va (v19) (wln (W.ret (bkr (thr ?_)))));cases H;exact r1 (qq b ⟨v19,d,rfl,o⟩)
 refine W.seq (bn H fun a0 p H=>bn H fun x j H=>W.join (Jn b fun c l=>Own c G (F)/\l= [(9,B x)]) ?_ ?_)
 ·clear H;refine W.region (va (Q i) (vx (l1 u_3 ((mm k) 0 _ rfl)) (va (B (decide (a.Kind<=4))) ?_)));rcases bo (decide (a.Kind<=4)) with e|e
  ·have y:=anT e p;refine vb e (wa (Q i) (wn (vx (l1 u_3 ((mm k) 0 _ rfl)) (wa (B (a.Kind != 2)) ?_))));cases y;refine va (B (a.Kind != 2)) ?_;rcases bo (a.Kind != 2) with f|f
   ·have h:=anT f j;refine vb f (wa (Qo i (0+1)) (wn (vx (l1 u_3 ((mm k) 1 _ rfl)) (wa (B (decide (a.A<0))) (wn (bn h fun b0 q h=>?_))))));rcases bo (decide (a.A<0)) with g|g
    ·obtain rfl:=orT g q;refine vb g (pz (ps (wa (B true) ?_)));cases h;exact vv (B true) (wln (jn b ⟨d,rfl⟩))
    have z:=orF g q;refine vb g (wa (Qo i (0+1)) (wn (vx (l1 u_3 ((mm k) 1 _ rfl)) (wa (B (decide (a.A>2))) (wn ?_)))));cases z;refine va (B (decide (a.A>2))) ?_;cases h;exact vv (B (decide (a.A>2))) (wln (jn b ⟨d,rfl⟩))
   obtain rfl:=anF f j;exact vb f (pz (pz (pz (pz (vv (B false) (wln (jn b ⟨d,rfl⟩)))))))
  obtain rfl:=anF e p;refine vb e (pz (ps (va (B false) ?_)));have s:false=false:=rfl;obtain rfl:=anF s j;exact vb s (pz (pz (pz (pz (vv (B false) (wln (jn b ⟨d,rfl⟩)))))))
 rintro e_ w_ ⟨n,e0,_,rfl,N,rfl,m,rfl⟩;refine nrm (cn H (fun M H=>?_) (fun M H=>?_))
 ·refine sr ?_;obtain ⟨v38,t⟩:=(hG.mono (P.trans (l16.trans N))).get 2 (by decide);refine vx (l1 sU t.im) (va (v38) (wln (W.ret (bkr (thr ?_)))));cases H;exact r1 (qq n ⟨v38,m,rfl,t⟩)
 refine W.skip (bkn (nrm (sr (va (.nilIface) (wln (W.ret ?_))))));cases H;exact r1 (qq n ⟨.nilIface,m,rfl,rfl⟩)
def jm (sg:Sto) (p0:Option Nat) (p1:aM):Option (Sto):=
 (p0).bind fun e=>
 (sg.place_Pen[e]?).bind fun b=>
 (bQ sg b.G).bind fun f=>
 if (p1.Kind==10)=true then
 (kz sg b.G 0 f p1.A).bind fun i=>
 some i
 else
 if (p1.Kind==11)=true then
 (ki sg b.G 0 f p1.A).bind fun j=>
 some j
 else
 if (p1.Kind==8)=true then
 (ki sg b.G b.At.Row f p1.A).bind fun g=>
 (g.place_Pen[e]?).bind fun c=>
 (dE c.At).bind fun d=>
 (g.set_place_Pen e (⟨c.G,d,c.Auto⟩:bv)).bind fun a=>
 some a
 else
 if (p1.Kind==9)=true then
 (kz sg b.G b.At.Row f p1.A).bind fun h=>
 (h.place_Pen[e]?).bind fun c=>
 (dE c.At).bind fun d=>
 (h.set_place_Pen e (⟨c.G,d,c.Auto⟩:bv)).bind fun a=>
 some a
 else
 (dE b.At).bind fun d=>
 (sg.set_place_Pen e (⟨b.G,d,b.Auto⟩:bv)).bind fun a=>
 some a
theorem rK (O0:Own c0 G F) (s:Rel c0 sg G) (p0:Option Nat) (f:aM){r:Sto}(h2:Pt 2 c0 v1 p0) (h4:Sl (RI .u8) c0 v3 f.Bytes) (H:jm sg p0 f=some r): Calls prog 122 #[v1,.agg #[I f.Kind,I f.A,I f.B,v3]] c0.w (aR c0 fun c v=>∃G_:Gm,Own c G_ (F)/\Rel c r G_/\v= .tuple #[]):=by
 unfold jm at H;refine en func122 rfl rfl (sr ?_);obtain ⟨a5,a6,a7,rfl⟩:=(h4).form;refine me (bx 38 [I f.Kind,I f.A,I f.B,.slice a5 a6 a7] O0) ?_;rintro v12 q3 x ⟨t,rfl,O9,q⟩;refine wln (sr (va (v1) (bn H fun z3 y1 H=>?_)));obtain ⟨a,rfl,l⟩:=((h2.mono x)).get y1;refine vv (Q a) (bn H fun e z1 H=>?_);obtain ⟨v17,g,n⟩:=Rel.open_place_Pen (s.mono x) z1 l;refine vx (le1 0 fp (O9.gon g 0 rfl)) (bn H fun i b2 H=>cl (bM O9 s.m e.G n b2) ?_);rintro v26 s3 b0 ⟨k,rfl⟩;refine va (I i) (wln (W.seq (sr (va (Q t) (vx (l1 u_3 ((mm q) 0 _ rfl)) (wln (W.block (sr (vv (B (f.Kind==10)) (wln (cn H (fun c2 H=>?_) (fun c2 H=>?_))))))))))))
 ·refine W.seq (rD [7] (Kp G []) k ?_);intro n1 a4 M;have u2:Kp G [] n1:=(Kp.nil M);refine ta 0 (Q a) (ta 1 (Q a) (ta 2 (Q a) (tkx 3 u2 (fun p h j=>le1 0 fp (j.gon g 0 rfl)) (ta 4 (I i) (ta 5 (Qo t (0+1)) (tx 6 (fun p h=>l1 u_3 ((mm q) 1 _ rfl)) (bn H fun j3 d2 H=>o1 7 (gc 7 (rn M s.m e.G 0 i f.A n.m d2) ?_))))))));rintro v37 q1 b4 ⟨z0,c1,j1,rfl⟩;refine ⟨.inl rfl,dn (nrm (W.ret (bkr (thr ?_))))⟩;cases H;exact r0 (qq q1 ⟨z0,c1,j1,rfl⟩)
 refine sr (vv (B (f.Kind==11)) (wln (cn H (fun e2 H=>?_) (fun e2 H=>?_))))
 ·refine W.seq (rD [7] (Kp G []) k ?_);intro s1 c4 N;have v2:Kp G [] s1:=(Kp.nil N);refine ta 0 (Q a) (ta 1 (Q a) (ta 2 (Q a) (tkx 3 v2 (fun p h j=>le1 0 fp (j.gon g 0 rfl)) (ta 4 (I i) (ta 5 (Qo t (0+1)) (tx 6 (fun p h=>l1 u_3 ((mm q) 1 _ rfl)) (bn H fun k3 f2 H=>o1 7 (gc 7 (sL N s.m e.G 0 i f.A n.m f2) ?_))))))));rintro v48 t1 d4 ⟨a1,d1,k1,rfl⟩;refine ⟨.inl rfl,dn (nrm (W.ret (bkr (thr ?_))))⟩;cases H;exact r0 (qq t1 ⟨a1,d1,k1,rfl⟩)
 refine sr (vv (B (f.Kind==8)) (wln (cn H (fun g2 H=>?_) (fun g2 H=>?_))))
 ·refine rD [12] (Kp G []) k ?_;intro u1 e4 P;have g0:Kp G [] u1:=(Kp.nil P);refine ta 0 (Q a) (ta 1 (Q a) (ta 2 (Q a) (tkx 3 g0 (fun p h j=>le1 0 fp (j.gon g 0 rfl)) (ta 4 (Q a) (ta 5 (Q a) (ta 6 (Qo a 1) (ta 7 (Qo a 1) (tkx 8 g0 (fun p h j=>le1 1 u_3 (j.gon g 0 rfl)) (ta 9 (I i) (ta 10 (Qo t (0+1)) (tx 11 (fun p h=>l1 u_3 ((mm q) 1 _ rfl)) (bn H fun l3 i2 H=>o1 12 (gc 12 (sL P s.m e.G e.At.Row i f.A n.m i2) ?_)))))))))))));rintro v59 t3 f4 ⟨n3,R,U,rfl⟩;refine ⟨.inl rfl,dn (bkn (nrm (W.region (vv (Q a) (va (Q a) (va (Qo a 1) (bn H fun d j2 H=>?_)))))))⟩;obtain ⟨D,Z,k2⟩:=Rel.open_place_Pen U j2 (tm l);refine vx (leN 29 1 [I d.At.Row,I d.At.Col,B d.At.Pending] (R.gon Z 0 rfl)) (bn H fun b l2 H=>cl (kf R d.At l2) ?_);rintro j4 u3 d0 ⟨e1,rfl⟩;refine va (Q a) (va (Qo a 1) (md (gB 29 1 [I b.Row,I b.Col,B b.Pending] [D,I b.Row,I b.Col,B b.Pending,B d.Auto] 0 e1 Z ⟨rfl,rfl,rfl,trivial⟩) ?_));rintro w1 e0 f1;refine bn H fun o m2 H=>?_;obtain ⟨b1,g1,m1,y3,p3⟩:=Rel.put_place_Pen f1 (U.mono (d0.trans e0)) (E':=[(Eb a 126 [D,I b.Row,I b.Col,B b.Pending,B d.Auto])]) m2 ⟨a,D,(tm l),rfl,(k2.mono (d0.trans e0))⟩;refine WL.nil ?_;cases H;exact n0 (qq w1 ⟨b1,g1,m1,rfl⟩)
 refine sr (vv (B (f.Kind==9)) (wln (cn H (fun n2 H=>?_) (fun n2 H=>?_))))
 ·refine rD [12] (Kp G []) k ?_;intro x1 g4 S;have h0:Kp G [] x1:=(Kp.nil S);refine ta 0 (Q a) (ta 1 (Q a) (ta 2 (Q a) (tkx 3 h0 (fun p h j=>le1 0 fp (j.gon g 0 rfl)) (ta 4 (Q a) (ta 5 (Q a) (ta 6 (Qo a 1) (ta 7 (Qo a 1) (tkx 8 h0 (fun p h j=>le1 1 u_3 (j.gon g 0 rfl)) (ta 9 (I i) (ta 10 (Qo t (0+1)) (tx 11 (fun p h=>l1 u_3 ((mm q) 1 _ rfl)) (bn H fun m3 o2 H=>o1 12 (gc 12 (rn S s.m e.G e.At.Row i f.A n.m o2) ?_)))))))))))));rintro k4 w3 i4 ⟨o3,T,X,rfl⟩;refine ⟨.inl rfl,dn (bkn (nrm (W.region (vv (Q a) (va (Q a) (va (Qo a 1) (bn H fun d p2 H=>?_)))))))⟩;obtain ⟨E,a0,q2⟩:=Rel.open_place_Pen X p2 (tm l);refine vx (leN 29 1 [I d.At.Row,I d.At.Col,B d.At.Pending] (T.gon a0 0 rfl)) (bn H fun b s2 H=>cl (kf T d.At s2) ?_);rintro h3 x3 f0 ⟨i1,rfl⟩;refine va (Q a) (va (Qo a 1) (md (gB 29 1 [I b.Row,I b.Col,B b.Pending] [E,I b.Row,I b.Col,B b.Pending,B d.Auto] 0 i1 a0 ⟨rfl,rfl,rfl,trivial⟩) ?_));rintro u0 u k0;refine bn H fun o w0 H=>?_;obtain ⟨i0,l0,s0,d3,x2⟩:=Rel.put_place_Pen k0 (X.mono (f0.trans u)) (E':=[(Eb a 126 [E,I b.Row,I b.Col,B b.Pending,B d.Auto])]) w0 ⟨a,E,(tm l),rfl,(q2.mono (f0.trans u))⟩;refine WL.nil ?_;cases H;exact n0 (qq u0 ⟨i0,l0,s0,rfl⟩)
 refine W.skip (bkn (nrm (W.region (vv (Q a) (va (Q a) (va (Qo a 1) (vx (leN 29 1 [I e.At.Row,I e.At.Col,B e.At.Pending] (k.gon g 0 rfl)) (bn H fun b x0 H=>cl (kf k e.At x0) ?_))))))));rintro i3 c3 y ⟨m0,rfl⟩;refine va (Q a) (va (Qo a 1) (md (gB 29 1 [I b.Row,I b.Col,B b.Pending] [v17,I b.Row,I b.Col,B b.Pending,B e.Auto] 0 m0 g ⟨rfl,rfl,rfl,trivial⟩) ?_));rintro v0 z o0;refine bn H fun o y0 H=>?_;obtain ⟨j0,q0,t0,e3,y2⟩:=Rel.put_place_Pen o0 (s.mono (x.trans (b0.trans (y.trans z)))) (E':=[(Eb a 126 [v17,I b.Row,I b.Col,B b.Pending,B e.Auto])]) y0 ⟨a,v17,(tm l),rfl,(n.mono (b0.trans (y.trans z)))⟩;refine WL.nil ?_;cases H;exact n0 (qq v0 ⟨j0,q0,t0,rfl⟩)
def lS (sg:Sto) (p0:Option Nat) (p1:Int):Option (Sto):=
 (p0).bind fun f=>
 (sg.place_Pen[f]?).bind fun b=>
 (bF sg b.G b.At.Row).bind fun a=>
 if (p1==0)=true then
 (ly sg a b.At.Col).bind fun c=>
 some c
 else
 if (p1==1)=true then
 (mc sg a b.At.Col).bind fun d=>
 some d
 else
 (kH sg a).bind fun e=>
 some e
theorem vk (O0:Own c0 G F) (h:Rel c0 sg G) (hG:Gl [2,4] c0) (Z:Option Nat) (d:Int){r:Sto}(h2:Pt 2 c0 v1 Z) (H:lS sg Z d=some r): Calls prog 190 #[v1,I d] c0.w (aR c0 fun c v=>∃G_:Gm,Own c G_ (F)/\Rel c r G_/\v= .tuple #[]):=by
 unfold lS at H;refine en func190 rfl rfl (W.seq (rD [] (Kp G []) O0 ?_));intro c3 X q;have p5:Kp G [] c3:=(Kp.nil q);refine ta 0 (v1) (bn H fun o0 h8 H=>?_);obtain ⟨a,rfl,h7⟩:=((h2.mono X)).get h8;refine ta 1 (Q a) (ta 2 (Q a) (bn H fun g h9 H=>?_));obtain ⟨v10,f,E⟩:=Rel.open_place_Pen (h.mono X) h9 h7;refine tkx 3 p5 (fun c' U j=>le1 0 fp (j.gon f 0 rfl)) (ta 4 (Q a) (ta 5 (Q a) (ta 6 (Qo a 1) (ta 7 (Qo a 1) (tkx 8 p5 (fun c' U j=>le1 1 u_3 (j.gon f 0 rfl)) (bn H fun e M H=>o1 9 (gc 9 (db q h.m g.G g.At.Row E M) ?_)))))));rintro v14 y q0 ⟨_,b,rfl,i⟩;have a0:Kp G [] y:=(Kp.nil b);refine ⟨.inr a0,ta 10 (v14) (dn (nrm (sr (va (I d) (wln (W.block (sr (vv (B (d==0)) (wln (cn H (fun N H=>?_) (fun N H=>?_)))))))))))⟩
 ·refine W.region (va (v14) (vv (Q a) (va (Qo a 1) (va (Qo a 2) (vx (le1 2 u_3 (b.gon f 0 rfl)) (bn H fun k0 P H=>cl (xe b h.m (hG.m.le (by decide)) e g.At.Col i P) ?_))))));rintro v30 z s0 ⟨k,o,t,rfl⟩;refine WL.nil (bkn ?_);cases H;exact n0 (qq z ⟨k,o,t,rfl⟩)
 refine sr (vv (B (d==1)) (wln (cn H (fun R H=>?_) (fun R H=>?_))))
 ·refine W.region (va (v14) (vv (Q a) (va (Qo a 1) (va (Qo a 2) (vx (le1 2 u_3 (b.gon f 0 rfl)) (bn H fun l0 S H=>cl (yx b h.m (hG.m.le (by decide)) e g.At.Col i S) ?_))))));rintro v38 A t0 ⟨l,p,u,rfl⟩;refine WL.nil (bkn ?_);cases H;exact n0 (qq A ⟨l,p,u,rfl⟩)
 refine W.region (va (v14) (bn H fun m0 T H=>cl (vj b h.m (hG.m.le (by decide)) e i T) ?_));rintro v45 D u0 ⟨n,s,x,rfl⟩;refine WL.nil (bkn ?_);cases H;exact n0 (qq D ⟨n,s,x,rfl⟩)
def mX (sg:Sto) (p0:Option Nat) (p1:Int):Option (Sto):=
 (lS sg p0 p1).bind fun c=>
 (p0).bind fun b=>
 (c.place_Pen[b]?).bind fun p=>
 (bQ c p.G).bind fun d=>
 (cL (σ:=Int×Sto) (τ:=Sto) ((d-0).toNat+1) (fun a=>
 if (decide (a.1<d))=true then
 ((orE (p1==2) ((bT (p1==0) ((a.2.place_Pen[b]?).bind fun j=>
 some (decide (a.1>j.At.Row)))).bind fun f=>
 some f)).bind fun e=>
 (orE e ((bT (p1==1) ((a.2.place_Pen[b]?).bind fun k=>
 some (decide (a.1<k.At.Row)))).bind fun h=>
 some h)).bind fun g=>
 if g=true then
 (a.2.place_Pen[b]?).bind fun l=>
 (bF a.2 l.G a.1).bind fun m=>
 (kH a.2 m).bind fun n=>
 some (n)
 else
 some (a.2)).bind fun o=>
 some (.inl ((w64 (a.1+1)),o))
 else
 some (.inr (a.2))) (0,c)).bind fun i=>
 some i
theorem xg (O0:Own c0 G F) (R0:Rel c0 sg G) (hG:Gl [2,4] c0) (p0:Option Nat) (f:Int){r:Sto}(h2:Pt 2 c0 v1 p0) (H:mX sg p0 f=some r): Calls prog 191 #[v1,I f] c0.w (aR c0 fun c v=>∃G_:Gm,Own c G_ (F)/\Rel c r G_/\v= .tuple #[]):=by
 unfold mX at H;refine en func191 rfl rfl (sr (va (v1) (va (I f) (bn H fun s3 h3 H=>cl (vk O0 R0 (hG.le (by decide)) p0 f h2 h3) ?_))));rintro v9 c8 l8 ⟨G4,O5,R6,rfl⟩;refine wln (sr (va (v1) (bn H fun f3 j1 H=>?_)));obtain ⟨b,rfl,n⟩:=((h2.mono l8)).get j1;refine vv (Q b) (bn H fun l2 k1 H=>?_);obtain ⟨v14,n1,m1⟩:=Rel.open_place_Pen R6 k1 n;refine vx (le1 0 fp (O5.gon n1 0 rfl)) (bn H fun A q1 H=>cl (bM O5 R6 l2.G m1 q1) ?_);rintro v23 R g3 ⟨x0,rfl⟩;refine va (I 0) (wln (W.block (bn H fun v2 U T=>lp U (fun a=>Jn R fun c l=>∃G_,Own c G_ (F)/\l= [(0,Q b),(1,I f),(12,I A),(13,I a.1)]/\Rel c a.2 G_) (fun S ex e w=>ex= .exit 0/\(Jn R fun c l=>∃G_,Own c G_ (F)/\l= []/\Rel c S G_) e w) ?_ ?_ ?_)))
 ·clear T U;intro a t3 i1 m2 H;revert i1 m2;rintro e_ w_ ⟨i,y2,_,rfl,i3,rfl,D,g,rfl,j⟩;refine sr (va (B (decide (a.1<A))) (wln (W.seq (cn H (fun t1 H=>?_) (fun t1 H=>?_)))))
  ·refine W.skip (nrm (bn H fun t0 d w0=>W.seqJ (Jn i fun c l=>∃G_,Own c G_ (F)/\l= [(0,Q b),(1,I f),(12,I A),(13,I a.1)]/\Rel c t0 G_) ?_ ?_))
   ·refine W.block (sr (vv (I a.1) (wln (W.seq (bn d fun q2 X d=>bn d fun j0 z d=>W.join (Jn i fun c l=>Own c D (F)/\l= [(0,Q b),(1,I f),(4,I a.1),(12,I A),(13,I a.1),(43,B j0)]) ?_ ?_)))))
    ·clear d;refine W.region (va (I f) (va (B (f==2)) ?_));rcases bo (f==2) with o|o
     ·obtain rfl:=orT o X;refine vb o (pz (pz (pz (pz (pz (ps (va (B true) ?_)))))));have Z:true=true:=rfl;obtain rfl:=orT Z z;exact vb Z (pz (pz (pz (pz (pz (ps (va (B true) (wln (jn i ⟨g,rfl⟩)))))))))
     have u:=orF o X;refine vb o (wa (I f) (wa (B (f==0)) (wn (bn u fun s2 a0 u=>?_))));rcases bo (f==0) with p|p
     ·have E:=anT p a0;refine vb p (wa (I a.1) (wa (Q b) (wa (Q b) (wa (Qo b 1) (wa (Qo b 1) (wn (bn E fun k u1 E=>?_)))))));obtain ⟨v44,w1,c3⟩:=Rel.open_place_Pen j u1 (tm n);refine vx (le1 1 u_3 (g.gon w1 0 rfl)) (wa (B (decide (a.1>k.At.Row))) (wn ?_));cases E;refine va (B (decide (a.1>k.At.Row))) ?_;cases u;refine va (B (decide (a.1>k.At.Row))) ?_;rcases bo (decide (a.1>k.At.Row)) with q|q
      ·obtain rfl:=orT q z;exact vb q (pz (pz (pz (pz (pz (ps (va (B true) (wln (jn i ⟨g,rfl⟩)))))))))
      have x:=orF q z;refine vb q (wa (I f) (wa (B (f==1)) (wn (bn x fun k0 b0 x=>?_))));rcases bo (f==1) with s|s
      ·have M:=anT s b0;refine vb s (wa (I a.1) (wa (Q b) (wa (Q b) (wa (Qo b 1) (wa (Qo b 1) (wn (bn M fun h x1 M=>?_)))))));obtain ⟨v53,y1,d3⟩:=Rel.open_place_Pen j x1 (tm n);refine vx (le1 1 u_3 (g.gon y1 0 rfl)) (wa (B (decide (a.1<h.At.Row))) (wn ?_));cases M;refine va (B (decide (a.1<h.At.Row))) ?_;cases x;exact va (B (decide (a.1<h.At.Row))) (wln (jn i ⟨g,rfl⟩))
      obtain rfl:=anF s b0;refine vb s (pz (pz (pz (ps (wa (B false) ?_)))));cases x;exact va (B false) (wln (jn i ⟨g,rfl⟩))
     obtain rfl:=anF p a0;refine vb p (pz (pz (pz (ps (wa (B false) ?_)))));cases u;refine va (B false) ?_;have d0:false=false:=rfl;have y:=orF d0 z;refine vb d0 (wa (I f) (wa (B (f==1)) (wn (bn y fun k0 e0 y=>?_))));rcases bo (f==1) with t|t
     ·have N:=anT t e0;refine vb t (wa (I a.1) (wa (Q b) (wa (Q b) (wa (Qo b 1) (wa (Qo b 1) (wn (bn N fun h z1 N=>?_)))))));obtain ⟨n3,b2,e3⟩:=Rel.open_place_Pen j z1 (tm n);refine vx (le1 1 u_3 (g.gon b2 0 rfl)) (wa (B (decide (a.1<h.At.Row))) (wn ?_));cases N;refine va (B (decide (a.1<h.At.Row))) ?_;cases y;exact va (B (decide (a.1<h.At.Row))) (wln (jn i ⟨g,rfl⟩))
     obtain rfl:=anF t e0;refine vb t (pz (pz (pz (ps (wa (B false) ?_)))));cases y;exact va (B false) (wln (jn i ⟨g,rfl⟩))
    rintro e_ w_ ⟨e1,z2,_,rfl,k2,rfl,P,rfl⟩;refine nrm (cn d (fun c2 d=>?_) (fun c2 d=>?_))
    ·refine W.region (vv (Q b) (va (Q b) (bn d fun m0 d2 d=>?_)));obtain ⟨o3,f2,e2⟩:=Rel.open_place_Pen (j.mono k2) d2 (tm n);refine vx (le1 0 fp (P.gon f2 0 rfl)) (va (I a.1) (bn d fun s0 g2 d=>cl (db P j.m m0.G a.1 e2 g2) ?_));rintro p3 x2 j3 ⟨_,z0,rfl,i2⟩;refine bn d fun w2 j2 d=>cl (vj z0 j.m (hG.m.le (by decide)) s0 i2 j2) ?_;rintro q3 f1 k3 ⟨u0,a1,c1,rfl⟩;refine WL.nil (bkn (nrm ?_));cases d;exact jn f1 ⟨u0,a1,rfl,c1⟩
    refine W.skip (bkn (nrm ?_));cases d;exact jn e1 ⟨D,P,rfl,j.m⟩
   rintro e_ w_ ⟨g1,a3,_,rfl,l3,rfl,v0,b1,rfl,d1⟩;refine W.region (vv (I (w64 (a.1+1))) (WL.nil ?_));cases w0;exact ⟨_,rfl,jn g1 ⟨v0,b1,rfl,d1⟩⟩
  refine W.exit (thx ?_);cases H;exact ⟨_,rfl,rfl,jn i ⟨D,g,rfl,j⟩⟩
 ·exact jn R ⟨G4,x0,rfl,R6.m⟩
 rintro _ e_ w_ ⟨rfl,h1,b3,_,rfl,m3,rfl,f0,g0,rfl,h0⟩;refine bke ?_;cases T;exact n0 (qq h1 ⟨f0,g0,h0,rfl⟩)
def gt (sg:Sto) (p0:Option Nat) (p1:aM):Option (Sto):=
 (p0).bind fun e=>
 (sg.place_Pen[e]?).bind fun a=>
 (bF sg a.G a.At.Row).bind fun c=>
 if (p1.Kind==2)=true then
 (cr sg a.G).bind fun f=>
 (bQ sg a.G).bind fun g=>
 (jq p1.A p1.B f g).bind fun h=>
 (sg.set_place_Pen e (⟨a.G,h,a.Auto⟩:bv)).bind fun d=>
 some d
 else
 if (p1.Kind==3)=true then
 (lS sg p0 p1.A).bind fun i=>
 some i
 else
 if (p1.Kind==4)=true then
 (mX sg p0 p1.A).bind fun j=>
 some j
 else
 if (p1.Kind==5)=true then
 (kj sg c a.At.Col p1.A).bind fun k=>
 some k
 else
 if (p1.Kind==6)=true then
 (kx sg c a.At.Col p1.A).bind fun l=>
 some l
 else
 if (p1.Kind==7)=true then
 (ky sg c a.At.Col p1.A).bind fun m=>
 some m
 else
 if (p1.Kind==12)=true then
 (sg.set_place_Pen e (⟨a.G,a.At,p1.A != 0⟩:bv)).bind fun b=>
 some b
 else
 some sg
theorem yy (O0:Own c0 G F) (k:Rel c0 sg G) (hG:Gl [2,4] c0) (D:Option Nat) (b:aM){r:Sto}(h2:Pt 2 c0 v1 D) (h4:Sl (RI .u8) c0 v3 b.Bytes) (H:gt sg D b=some r): Calls prog 123 #[v1,.agg #[I b.Kind,I b.A,I b.B,v3]] c0.w (aR c0 fun c v=>∃G_:Gm,Own c G_ (F)/\Rel c r G_/\v= .tuple #[]):=by
 unfold gt at H;refine en func123 rfl rfl (sr ?_);obtain ⟨a5,a6,a7,rfl⟩:=(h4).form;refine me (bx 38 [I b.Kind,I b.A,I b.B,.slice a5 a6 a7] O0) ?_;rintro v12 e4 q ⟨n,rfl,O9,i⟩;refine wln (W.seq (rD [] (Kp G []) O9 ?_));intro b2 s E;have e0:Kp G [] b2:=(Kp.nil E);refine ta 0 (v1) (bn H fun g4 n2 H=>?_);obtain ⟨a,rfl,x⟩:=((h2.mono (q.trans s))).get n2;refine ta 1 (Q a) (ta 2 (Q a) (bn H fun d o2 H=>?_));obtain ⟨v20,h,o⟩:=Rel.open_place_Pen (k.mono (q.trans s)) o2 x;refine tkx 3 e0 (fun l f j=>le1 0 fp (j.gon h 0 rfl)) (ta 4 (Q a) (ta 5 (Q a) (ta 6 (Qo a 1) (ta 7 (Qo a 1) (tkx 8 e0 (fun l f j=>le1 1 u_3 (j.gon h 0 rfl)) (bn H fun p p2 H=>o1 9 (gc 9 (db E k.m d.G d.At.Row o p2) ?_)))))));rintro v24 U t ⟨_,g,rfl,y⟩;have d3:Kp G [] U:=(Kp.nil g);refine ⟨.inr d3,ta 10 (v24) (dn (nrm (sr (va (Q n) (vx (l1 u_3 ((mm i) 0 _ rfl)) (wln (W.block (sr (vv (B (b.Kind==2)) (wln (cn H (fun q2 H=>?_) (fun q2 H=>?_))))))))))))⟩
 ·refine rD [18] (Kp G []) g ?_;intro c2 X M;have f0:Kp G [] c2:=(Kp.nil M);refine ta 0 (Q a) (ta 1 (Qo n (0+1)) (tx 2 (fun l f=>l1 u_3 ((mm i) 1 _ rfl)) (ta 3 (Qo n (0+2)) (tx 4 (fun l f=>l1 u_3 ((mm i) 2 _ rfl)) (ta 5 (Q a) (ta 6 (Q a) (ta 7 (Q a) (tkx 8 f0 (fun l f j=>le1 0 fp (j.gon h 0 rfl)) (ta 10 (Q a) (ta 11 (Q a) (ta 12 (Q a) (tkx 13 f0 (fun l f j=>le1 0 fp (j.gon h 0 rfl)) (bn H fun f1 s2 H=>o1 9 (gc 9 (cS M k.m d.G o.m s2) ?_))))))))))))));rintro v43 d2 Z ⟨N,rfl⟩;have e3:Kp G [] d2:=(Kp.nil N);refine ⟨.inr e3,bn H fun g1 t2 H=>o1 14 (gc 14 (bM N k.m d.G o.m t2) ?_)⟩;rintro v51 e2 a0 ⟨P,rfl⟩;have f3:Kp G [] e2:=(Kp.nil P);refine ⟨.inr f3,bn H fun e u2 H=>o1 15 (gc 15 (sO P b.A b.B f1 g1 u2) ?_)⟩;rintro v59 f2 b0 ⟨R,rfl⟩;have g3:Kp G [] f2:=(Kp.nil R);refine ⟨.inr g3,ta 16 (Q a) (ta 17 (Qo a 1) (o1 18 (gD 18 (gB 29 1 [I e.Row,I e.Col,B e.Pending] [v20,I e.Row,I e.Col,B e.Pending,B d.Auto] 0 R h ⟨rfl,rfl,rfl,trivial⟩) ?_)))⟩;rintro g2 d0 n1;refine bn H fun h1 v2 H=>?_;obtain ⟨i1,q1,w1,f4,d4⟩:=Rel.put_place_Pen n1 (k.mono (q.trans (s.trans (t.trans (X.trans (Z.trans (a0.trans (b0.trans d0)))))))) (E':=[(Eb a 126 [v20,I e.Row,I e.Col,B e.Pending,B d.Auto])]) v2 ⟨a,v20,(tm x),rfl,(o.mono (t.trans (X.trans (Z.trans (a0.trans (b0.trans d0))))))⟩;refine ⟨.inl rfl,dn (bkn ?_)⟩;cases H;exact n0 (qq g2 ⟨i1,q1,w1,rfl⟩)
 refine sr (vv (B (b.Kind==3)) (wln (cn H (fun w2 H=>?_) (fun w2 H=>?_))))
 ·refine W.region (va (Q a) (va (Qo n (0+1)) (vx (l1 u_3 ((mm i) 1 _ rfl)) (bn H fun y3 x2 H=>cl (vk g k.m (hG.m.le (by decide)) D b.A h2.m x2) ?_))));rintro n4 i2 i4 ⟨j1,s1,x1,rfl⟩;refine WL.nil (bkn ?_);cases H;exact n0 (qq i2 ⟨j1,s1,x1,rfl⟩)
 refine sr (vv (B (b.Kind==4)) (wln (cn H (fun y2 H=>?_) (fun y2 H=>?_))))
 ·refine W.region (va (Q a) (va (Qo n (0+1)) (vx (l1 u_3 ((mm i) 1 _ rfl)) (bn H fun z3 z2 H=>cl (xg g k.m (hG.m.le (by decide)) D b.A h2.m z2) ?_))));rintro o4 j2 j4 ⟨k1,t1,y1,rfl⟩;refine WL.nil (bkn ?_);cases H;exact n0 (qq j2 ⟨k1,t1,y1,rfl⟩)
 refine sr (vv (B (b.Kind==5)) (wln (cn H (fun a3 H=>?_) (fun a3 H=>?_))))
 ·refine rD [8] (Kp G []) g ?_;intro k2 k4 S;have h3:Kp G [] k2:=(Kp.nil S);refine ta 0 (v24) (ta 1 (Q a) (ta 2 (Q a) (ta 3 (Qo a 1) (ta 4 (Qo a 2) (tkx 5 h3 (fun l f j=>le1 2 u_3 (j.gon h 0 rfl)) (ta 6 (Qo n (0+1)) (tx 7 (fun l f=>l1 u_3 ((mm i) 1 _ rfl)) (bn H fun a4 b3 H=>o1 8 (gc 8 (xf S k.m (hG.m.le (by decide)) p d.At.Col b.A y.m b3) ?_)))))))));rintro p4 l2 l4 ⟨m1,u1,z1,rfl⟩;refine ⟨.inl rfl,dn (bkn ?_)⟩;cases H;exact n0 (qq l2 ⟨m1,u1,z1,rfl⟩)
 refine sr (vv (B (b.Kind==6)) (wln (cn H (fun c3 H=>?_) (fun c3 H=>?_))))
 ·refine rD [8] (Kp G []) g ?_;intro m2 m4 T;have i3:Kp G [] m2:=(Kp.nil T);refine ta 0 (v24) (ta 1 (Q a) (ta 2 (Q a) (ta 3 (Qo a 1) (ta 4 (Qo a 2) (tkx 5 i3 (fun l f j=>le1 2 u_3 (j.gon h 0 rfl)) (ta 6 (Qo n (0+1)) (tx 7 (fun l f=>l1 u_3 ((mm i) 1 _ rfl)) (bn H fun b4 x0 H=>o1 8 (gc 8 (wD T k.m (hG.m.le (by decide)) p d.At.Col b.A y.m x0) ?_)))))))));rintro w3 t0 s3 ⟨g0,j0,o0,rfl⟩;refine ⟨.inl rfl,dn (bkn ?_)⟩;cases H;exact n0 (qq t0 ⟨g0,j0,o0,rfl⟩)
 refine sr (vv (B (b.Kind==7)) (wln (cn H (fun y0 H=>?_) (fun y0 H=>?_))))
 ·refine rD [8] (Kp G []) g ?_;intro u0 t3 u;have d1:Kp G [] u0:=(Kp.nil u);refine ta 0 (v24) (ta 1 (Q a) (ta 2 (Q a) (ta 3 (Qo a 1) (ta 4 (Qo a 2) (tkx 5 d1 (fun l f j=>le1 2 u_3 (j.gon h 0 rfl)) (ta 6 (Qo n (0+1)) (tx 7 (fun l f=>l1 u_3 ((mm i) 1 _ rfl)) (bn H fun c4 z0 H=>o1 8 (gc 8 (wE u k.m (hG.m.le (by decide)) p d.At.Col b.A y.m z0) ?_)))))))));rintro x3 v0 u3 ⟨h0,k0,q0,rfl⟩;refine ⟨.inl rfl,dn (bkn ?_)⟩;cases H;exact n0 (qq v0 ⟨h0,k0,q0,rfl⟩)
 refine sr (vv (B (b.Kind==12)) (wln (cn H (fun a1 H=>?_) (fun a1 H=>?_))))
 ·refine W.region (va (Q a) (va (Qo n (0+1)) (vx (l1 u_3 ((mm i) 1 _ rfl)) (va (B (b.A != 0)) (va (Q a) (va (Qo a 4) (md (gC 4 4 (B (b.A != 0)) [v20,I d.At.Row,I d.At.Col,B d.At.Pending,B (b.A != 0)] 0 g h ⟨rfl,trivial⟩) ?_)))))));rintro w0 z l0;refine bn H fun e1 b1 H=>?_;obtain ⟨i0,m0,s0,p3,l3⟩:=Rel.put_place_Pen l0 (k.mono (q.trans (s.trans (t.trans z)))) (E':=[(Eb a 126 [v20,I d.At.Row,I d.At.Col,B d.At.Pending,B (b.A != 0)])]) b1 ⟨a,v20,(tm x),rfl,(o.mono (t.trans z))⟩;refine WL.nil (bkn ?_);cases H;exact n0 (qq w0 ⟨i0,m0,s0,rfl⟩)
 refine W.skip (bkn ?_);cases H;exact n0 (qq U ⟨G,g,k.m,rfl⟩)
def pg (sg:Sto) (p0:Option Nat) (p1:aM):Option (Sto×Er):=
 (kW p1).bind fun g=>
 if (!g.isNil)=true then
 some (sg,g)
 else
 (orE p0.isNone ((p0).bind fun i=>
 (sg.place_Pen[i]?).bind fun j=>
 some j.G.isNone)).bind fun h=>
 if h=true then
 some (sg,Er.nil)
 else
 (p0).bind fun d=>
 (sg.place_Pen[d]?).bind fun b=>
 (cr sg b.G).bind fun k=>
 (bQ sg b.G).bind fun l=>
 (gu b.At k l).bind fun e=>
 (sg.set_place_Pen d (⟨b.G,e,b.Auto⟩:bv)).bind fun f=>
 (f.set_place_Pen d (⟨b.G,(⟨e.Row,e.Col,false⟩:ai),b.Auto⟩:bv)).bind fun a=>
 (if (p1.Kind==8)=true then
 (jm a p0 p1).bind fun c=>
 some (c)
 else
 if (p1.Kind==9)=true then
 (jm a p0 p1).bind fun c=>
 some (c)
 else
 (if (p1.Kind==10)=true then
 some (p1.Kind==10)
 else
 some (p1.Kind==11)).bind fun o=>
 if o=true then
 (jm a p0 p1).bind fun c=>
 some (c)
 else
 (gt a p0 p1).bind fun m=>
 some (m)).bind fun n=>
 some (n,Er.nil)
theorem CM (O0:Own c0 G F) (t:Rel c0 sg G) (hG:Gl [2,4] c0) (s:Option Nat) (e:aM){r:Sto×Er}(u:Pt 2 c0 v1 s) (P:Sl (RI .u8) c0 v3 e.Bytes) (H:pg sg s e=some r): Calls prog 76 #[v1,.agg #[I e.Kind,I e.A,I e.B,v3]] c0.w (aR c0 fun c v=>∃y1,∃G_:Gm,Own c G_ (F)/\Rel c r.1 G_/\v=y1/\RE 350 144 c y1 r.2):=by
 unfold pg at H;refine en func76 rfl rfl (sr ?_);obtain ⟨a5,a6,a7,rfl⟩:=(P).form;refine me (bx 38 [I e.Kind,I e.A,I e.B,.slice a5 a6 a7] O0) ?_;rintro v12 w4 p ⟨b8,rfl,O9,k⟩;refine va (.nilIface) (wln (W.seq (sr (vx (lN 38 k) (bn H fun x3 z2 H=>cl (ug O9 (hG.m.le (by decide)) e P.m z2) ?_)))));rintro v14 D q ⟨_,x,rfl,o0⟩;refine va (v14) (wln (sr (va (v14) (vr (B (!x3.isNil)) (by rcases (o0).cs with ⟨h,i⟩|⟨b_,h,i⟩|⟨b_,h,i⟩ <;> (subst h; rw [i]; kernel_rfl)) (wln (cn H (fun a3 H=>?_) (fun a3 H=>?_)))))))
 ·refine sr (vv (v14) (wln (W.ret (thr ?_))));cases H;exact r1 (qq D ⟨v14,G,x,t.m,rfl,o0⟩)
 refine W.skip (nrm (W.seq (W.seq (bn H fun n1 q0 H=>W.join (Jn D fun c l=>Own c G (F)/\l= [(0,v1),(3,Q b8),(19,B n1)]) ?_ ?_))))
 ·clear H;refine W.region (va (v1) (vr (B s.isNone) (by rcases u.m.cs with ⟨h,i⟩|⟨b_,h,i⟩ <;> (subst h; rw [i]; kernel_rfl)) ?_));rcases bo (s.isNone) with o|o
  ·obtain rfl:=orT o q0;exact vb o (pz (pz (ps (va (B true) (wln (jn D ⟨x,rfl⟩))))))
  have n:=orF o q0;refine vb o (wa (v1) (wn (bn n fun i4 c3 n=>?_)));obtain ⟨m0,rfl,b3⟩:=((u.mono (p.trans q))).get c3;refine va (Q m0) (wa (Q m0) (wn (bn n fun e0 d3 n=>?_)));obtain ⟨v30,f3,e3⟩:=Rel.open_place_Pen (t.mono (p.trans q)) d3 b3;refine vx (le1 0 fp (x.gon f3 0 rfl)) (wn (vr (B e0.G.isNone) (by rcases (e3).cs with ⟨h,i⟩|⟨b_,h,i⟩ <;> (subst h; rw [i]; kernel_rfl)) ?_));cases n;exact va (B e0.G.isNone) (wln (jn D ⟨x,rfl⟩))
 rintro e_ w_ ⟨s2,y4,_,rfl,U,rfl,h0,rfl⟩;refine nrm (cn H (fun g3 H=>?_) (fun g3 H=>?_))
 ·refine sr (va (.nilIface) (wln (W.ret (thr ?_))));cases H;exact r1 (qq s2 ⟨.nilIface,G,h0,t.m,rfl,rfl⟩)
 refine W.skip (nrm (W.seq (rD [18] (Kp G []) h0 ?_)));intro t2 X i0;have f0:Kp G [] t2:=(Kp.nil i0);refine ta 0 (v1) (ta 1 (v1) (bn H fun j4 h3 H=>?_));obtain ⟨a,rfl,S⟩:=((u.mono (p.trans (q.trans (U.trans X))))).get h3;refine ta 2 (Q a) (ta 3 (Qo a 1) (bn H fun d i3 H=>?_));obtain ⟨v47,N,M⟩:=Rel.open_place_Pen (t.mono (p.trans (q.trans (U.trans X)))) i3 S;refine tkx 4 f0 (fun c' s0 T=>leN 29 1 [I d.At.Row,I d.At.Col,B d.At.Pending] (T.gon N 0 rfl)) (ta 5 (Q a) (ta 6 (Q a) (ta 7 (Q a) (tkx 8 f0 (fun c' s0 T=>le1 0 fp (T.gon N 0 rfl)) (ta 10 (Q a) (ta 11 (Q a) (ta 12 (Q a) (tkx 13 f0 (fun c' s0 T=>le1 0 fp (T.gon N 0 rfl)) (bn H fun z1 j3 H=>o1 9 (gc 9 (cS i0 t.m d.G M j3) ?_))))))))));rintro v56 u2 Z ⟨j0,rfl⟩;have s3:Kp G [] u2:=(Kp.nil j0);refine ⟨.inr s3,bn H fun b2 k3 H=>o1 14 (gc 14 (bM j0 t.m d.G M.m k3) ?_)⟩;rintro c5 v2 a0 ⟨k0,rfl⟩;have t3:Kp G [] v2:=(Kp.nil k0);refine ⟨.inr t3,bn H fun b l3 H=>o1 15 (gc 15 (eJ k0 d.At z1 b2 l3) ?_)⟩;rintro d5 w2 b0 ⟨l0,rfl⟩;have u3:Kp G [] w2:=(Kp.nil l0);refine ⟨.inr u3,ta 16 (Q a) (ta 17 (Qo a 1) (o1 18 (gD 18 (gB 29 1 [I b.Row,I b.Col,B b.Pending] [v47,I b.Row,I b.Col,B b.Pending,B d.Auto] 0 l0 N ⟨rfl,rfl,rfl,trivial⟩) ?_)))⟩;rintro x4 d0 k2;refine bn H fun e2 n3 H=>?_;obtain ⟨t4,l2,o2,m3,u4⟩:=Rel.put_place_Pen k2 (t.mono (p.trans (q.trans (U.trans (X.trans (Z.trans (a0.trans (b0.trans d0)))))))) (E':=[(Eb a 126 [v47,I b.Row,I b.Col,B b.Pending,B d.Auto])]) n3 ⟨a,v47,(tm S),rfl,(M.mono (Z.trans (a0.trans (b0.trans d0))))⟩;refine ⟨.inl rfl,dn (nrm (sr (vv (Q a) (va (Qo a 1) (va (Qo a 3) (md (gC 4 3 (B false) [v47,I b.Row,I b.Col,B false,B d.Auto] 0 l2 m3 ⟨rfl,trivial⟩) ?_))))))⟩;rintro E t0 m2;refine bn H fun f2 o3 H=>?_;obtain ⟨g2,y,z,z4,v4⟩:=Rel.put_place_Pen m2 (o2.mono t0) (E':=[(Eb a 126 [v47,I b.Row,I b.Col,B false,B d.Auto])]) o3 ⟨a,v47,(tm S),rfl,(M.mono (Z.trans (a0.trans (b0.trans (d0.trans t0)))))⟩;refine wln (bn H fun c2 f j2=>W.seqJ (Jn E fun c l=>∃G_,Own c G_ (F)/\l= []/\Rel c c2 G_) ?_ ?_)
 ·refine sr (va (Q b8) (vx (l1 u_3 ((mm k) 0 _ rfl)) (wln (W.block (W.seq (W.block (W.seq (W.block (W.block (W.block (W.seq (W.seq (sr (vv (B (e.Kind==8)) (wln (cn f (fun p3 f=>?_) (fun p3 f=>?_)))))))))))))))))
  ·refine W.exit (thx (thx (bke (bkn (bkn (nrm (sr (va (Q a) (vx (lN 38 (mm k)) (bn f fun g0 q3 f=>cl (rK y z s e u.m P.m q3) ?_))))))))));rintro e5 x2 b5 ⟨i2,n2,p2,rfl⟩;refine wln (W.exit (bko rfl (thx (bke (nrm ?_)))));cases f;exact jn x2 ⟨i2,n2,rfl,p2⟩
  refine W.skip (nrm (W.seq (sr (vv (B (e.Kind==9)) (wln (cn f (fun q1 f=>?_) (fun q1 f=>?_)))))))
  ·refine W.exit (thx (thx (bko rfl (bke (bkn (nrm (sr (va (Q a) (vx (lN 38 (mm k)) (bn f fun g0 s1 f=>cl (rK y z s e u.m P.m s1) ?_))))))))));rintro p4 i1 k4 ⟨u0,y0,c1,rfl⟩;refine wln (W.exit (bko rfl (thx (bke (nrm ?_)))));cases f;exact jn i1 ⟨u0,y0,rfl,c1⟩
  refine W.skip (nrm (bn f fun d2 j g=>W.seqJ (Jn E fun c l=>Own c g2 (F)/\l= [(0,Q a),(3,Q b8),(48,B d2)]) ?_ ?_))
  ·refine sr (vv (B (e.Kind==10)) (wln (cn j (fun t1 j=>?_) (fun t1 j=>?_))))
   ·refine W.skip (nrm ?_);cases j;exact jn E ⟨y,rfl⟩
   refine W.region (vv (B (e.Kind==11)) (wln ?_));cases j;exact jn E ⟨y,rfl⟩
  rintro e_ w_ ⟨e4,f4,_,rfl,l4,rfl,R,rfl⟩;refine cn g (fun u1 g=>?_) (fun u1 g=>?_)
  ·refine W.exit (thx (bko rfl (bko rfl (bke (nrm (sr (va (Q a) (vx (lN 38 (mm k)) (bn g fun g0 w1 g=>cl (rK R z.m s e u.m P.m w1) ?_)))))))));rintro q4 j1 m4 ⟨v0,z0,d1,rfl⟩;refine wln (W.exit (bko rfl (thx (bke (nrm ?_)))));cases g;exact jn j1 ⟨v0,z0,rfl,d1⟩
  refine W.skip (nrm (W.exit (bko rfl (bko rfl (bko rfl (thx (bke (nrm (sr (va (Q a) (vx (lN 38 (mm k)) (bn g fun s4 x1 g=>cl (yy R z.m (hG.m.le (by decide)) s e u.m P.m x1) ?_))))))))))));rintro r4 k1 n4 ⟨w0,a1,e1,rfl⟩;refine wln (W.exit (bke (nrm ?_)));cases g;exact jn k1 ⟨w0,a1,rfl,e1⟩
 rintro e_ w_ ⟨m1,g4,_,rfl,o4,rfl,x0,b1,rfl,f1⟩;refine sr (va (.nilIface) (wln (W.ret ?_)));cases j2;exact r1 (qq m1 ⟨.nilIface,x0,b1,f1,rfl,rfl⟩)
def eA (p0:aM):Option (Int):=
 (orE (decide (p0.Kind<2)) (some (decide (p0.Kind>12)))).bind fun d=>
 if d=true then
 some 5
 else
 (orE (p0.Kind==3) (some (p0.Kind==4))).bind fun a=>
 (bT a ((orE (decide (p0.A<0)) (some (decide (p0.A>2)))).bind fun c=>
 some c)).bind fun b=>
 if b=true then
 some 3
 else
 some 0
theorem mG (Z:Own c0 G F) (a:aM){r:Int}(h2:Sl (RI .u8) c0 v1 a.Bytes) (H:eA a=some r): Calls prog 15 #[.agg #[I a.Kind,I a.A,I a.B,v1]] c0.w (aR c0 fun c v=>Own c G (F)/\v=I r):=by
 unfold eA at H;refine en func15 rfl rfl (sr ?_);obtain ⟨a3,a4,a5,rfl⟩:=(h2).form;refine me (bx 38 [I a.Kind,I a.A,I a.B,.slice a3 a4 a5] Z) ?_;rintro v10 z l9 ⟨e,rfl,S,k⟩;refine va (I 0) (wln (W.seq (W.seq (bn H fun T s H=>W.join (Jn z fun c l=>Own c G (F)/\l= [(1,Q e),(10,B T)]) ?_ ?_))))
 ·clear H;refine W.region (va (Q e) (vx (l1 u_3 (k 0 _ rfl)) (va (B (decide (a.Kind<2))) ?_)));rcases bo (decide (a.Kind<2)) with f|f
  ·obtain rfl:=orT f s;exact vb f (pz (ps (va (B true) (wln (jn z ⟨S,rfl⟩)))))
  have M:=orF f s;refine vb f (wa (Q e) (wn (vx (l1 u_3 (k 0 _ rfl)) (wa (B (decide (a.Kind>12))) ?_))));cases M;exact va (B (decide (a.Kind>12))) (wln (jn z ⟨S,rfl⟩))
 rintro e_ w_ ⟨b,i0,_,rfl,k0,rfl,d,rfl⟩;refine nrm (cn H (fun U H=>?_) (fun U H=>?_))
 ·refine sr (va (I 5) (wln (W.ret (thr ?_))));cases H;exact r1 (qq b ⟨d,rfl⟩)
 refine W.skip (nrm (W.seq (W.seq (bn H fun e0 t H=>bn H fun D o H=>W.join (Jn b fun c l=>Own c G (F)/\l= [(28,B D)]) ?_ ?_))))
 ·clear H;refine W.region (va (Q e) (vx (l1 u_3 ((mm k) 0 _ rfl)) (va (B (a.Kind==3)) ?_)));rcases bo (a.Kind==3) with g|g
  ·obtain rfl:=orT g t;refine vb g (pz (ps (va (B true) ?_)));have u:true=true:=rfl;have m:=anT u o;refine vb u (wa (Qo e (0+1)) (wn (vx (l1 u_3 ((mm k) 1 _ rfl)) (wa (B (decide (a.A<0))) (wn (bn m fun E x m=>?_))))));rcases bo (decide (a.A<0)) with h|h
   ·obtain rfl:=orT h x;refine vb h (pz (ps (wa (B true) ?_)));cases m;exact va (B true) (wln (jn b ⟨d,rfl⟩))
   have N:=orF h x;refine vb h (wa (Qo e (0+1)) (wn (vx (l1 u_3 ((mm k) 1 _ rfl)) (wa (B (decide (a.A>2))) (wn ?_)))));cases N;refine va (B (decide (a.A>2))) ?_;cases m;exact va (B (decide (a.A>2))) (wln (jn b ⟨d,rfl⟩))
  have P:=orF g t;refine vb g (wa (Q e) (wn (vx (l1 u_3 ((mm k) 0 _ rfl)) (wa (B (a.Kind==4)) ?_))));cases P;refine va (B (a.Kind==4)) ?_;rcases bo (a.Kind==4) with i|i
  ·have n:=anT i o;refine vb i (wa (Qo e (0+1)) (wn (vx (l1 u_3 ((mm k) 1 _ rfl)) (wa (B (decide (a.A<0))) (wn (bn n fun E y n=>?_))))));rcases bo (decide (a.A<0)) with j|j
   ·obtain rfl:=orT j y;refine vb j (pz (ps (wa (B true) ?_)));cases n;exact va (B true) (wln (jn b ⟨d,rfl⟩))
   have R:=orF j y;refine vb j (wa (Qo e (0+1)) (wn (vx (l1 u_3 ((mm k) 1 _ rfl)) (wa (B (decide (a.A>2))) (wn ?_)))));cases R;refine va (B (decide (a.A>2))) ?_;cases n;exact va (B (decide (a.A>2))) (wln (jn b ⟨d,rfl⟩))
  obtain rfl:=anF i o;exact vb i (pz (pz (pz (pz (va (B false) (wln (jn b ⟨d,rfl⟩)))))))
 rintro e_ w_ ⟨q,j0,_,rfl,l0,rfl,p,rfl⟩;refine nrm (cn H (fun X H=>?_) (fun X H=>?_))
 ·refine sr (va (I 3) (wln (W.ret (thr ?_))));cases H;exact r1 (qq q ⟨p,rfl⟩)
 refine W.skip (nrm (sr (va (I 0) (wln (W.ret ?_)))));cases H;exact r1 (qq q ⟨p,rfl⟩)
def da (p0:aa) (p1:Int) (p2:Int) (p3:Int) (p4:Int):Option (aa):=
 (idx p0.L p1).bind fun d=>
 (idx p0.L p1).bind fun b=>
 (gR d.Cells b.Wrap p2 p3 p4).bind fun a=>
 (co p0 p1 (⟨a.1,a.2⟩:aj)).bind fun c=>
 some c
theorem lh (O0:Own c0 G F) (d:aa) (f:Int) (q:Int) (s:Int) (t:Int){r:aa}(g:Sl am c0 v1 d.L) (H:da d f q s t=some r): Calls prog 141 #[.agg #[v1,I d.At.Row,I d.At.Col,B d.At.Pending,B d.Auto],I f,I q,I s,I t] c0.w (aR c0 fun c v=>∃P y2,Own c G (es true am P 48 y2 r.L::F)/\v= .agg #[P,I r.At.Row,I r.At.Col,B r.At.Pending,B r.Auto]/\OA am c P y2 r.L):=by
 unfold da at H;refine en func141 rfl rfl (sr ?_);obtain ⟨h,i,j,rfl⟩:=(g).form;refine me (bx 31 [.slice h i j,I d.At.Row,I d.At.Col,B d.At.Pending,B d.Auto] O0) ?_;rintro v10 c9 l9 ⟨b6,rfl,O7,M⟩;refine me (al 31 [Y,I 0,I 0,B false,B false] O7) ?_;rintro v14 a1 D ⟨z0,rfl,R⟩;refine wln (W.seq (rD [] (Kp G0 []) R ?_));intro e0 E S;have g1:Kp G0 [] e0:=Kp.nil0;refine ta 0 (Q b6) (tx 1 (fun o e=>l1 fm ((mm M) 0 _ rfl)) (ta 2 (I f) (bn H fun t0 y H=>?_)));obtain ⟨x0,g0,m0⟩:=Sl.at (g.mono (l9.trans (D.trans E))) (aU y);obtain ⟨v22,rfl,h0⟩:=g0;refine tx 3 (fun o e=>ix fm g.m y) (ta 4 (Qo (sb (.slice h i j)) (so (.slice h i j)+f.toNat*2)) (tx 5 (fun o e=>l1 cy ((mm m0) 0 _ rfl)) (ta 6 (Q b6) (tx 7 (fun o e=>l1 fm ((mm M) 0 _ rfl)) (ta 8 (I f) (bn H fun N z H=>?_))))));obtain ⟨y0,i0,o0⟩:=Sl.at (g.mono (l9.trans (D.trans E))) (aU z);obtain ⟨v28,rfl,c1⟩:=i0;refine tx 9 (fun o e=>ix fm g.m z) (ta 10 (Qo (sb (.slice h i j)) (so (.slice h i j)+f.toNat*2+1)) (tx 11 (fun o e=>l1 u_4 ((mm o0) 1 _ rfl)) (ta 12 (I q) (ta 13 (I s) (ta 14 (I t) (bn H fun b j0 H=>o1 15 (gc 15 (sq S t0.Cells N.Wrap q s t h0 j0) ?_)))))));rintro v38 f0 d1 ⟨v31,T,rfl,A⟩;have q0:Kp G0 [] f0:=Kp.nil0;refine ⟨.inr q0,ta 16 (.tuple #[v31,B b.2]) (ta 17 (v31) (ta 18 (B b.2) (ta 19 (v31) (ta 20 (B b.2) (dn (nrm (sr (vx (lN 31 (mm M)) (va (I f) (va (v31) (va (B b.2) ?_)))))))))))⟩;obtain ⟨Z,a0,b0,rfl⟩:=(A).form;refine va (.agg #[.slice Z a0 b0,B b.2]) (bn H fun a k0 H=>cl (gw T d f (⟨b.1,b.2⟩:aj) g.m A k0) ?_);rintro v52 b1 e1 ⟨v44,s0,U,rfl,p⟩;obtain ⟨k,l,n,rfl⟩:=(p).form;refine md (sA 31 [.slice k l n,I a.At.Row,I a.At.Col,B a.At.Pending,B a.Auto] 1 U ⟨(p).one,rfl,rfl,rfl,rfl,trivial⟩) ?_;rintro x f1 u;refine wln (W.ret ?_);obtain rfl:=si H;have X:=u.sD 2 [0];exact kv (c:=x) (vs:=[.slice k l n,I a.At.Row,I a.At.Col,B a.At.Pending,B a.Auto]) rfl (by kernel_rfl) (by kernel_rfl) (by kernel_rfl) (u.on 1 rfl _ rfl).1 ⟨_,x,rfl,rfl,pt,(.slice k l n),s0,X,rfl,p.m⟩
def fM (p0:aa) (p1:Int) (p2:Int):Option (aa):=
 (idx ([2,1,3]:List Int) p2).bind fun k=>
 (da p0 p0.At.Row k p0.At.Col 0).bind fun b=>
 (cL (σ:=Int×(List aj)×Int×Int×Bool×Bool) (τ:=((List aj)×Int×Int×Bool×Bool)) (((b.L.length:Int)-0).toNat+1) (fun a=>
 (bT (decide (a.1<(a.2.1.length:Int))) (some (p1==4))).bind fun f=>
 if f=true then
 ((orE (p2==2) ((bT (p2==0) (some (decide (a.1>a.2.2.1)))).bind fun h=>
 some h)).bind fun g=>
 (orE g ((bT (p2==1) (some (decide (a.1<a.2.2.1)))).bind fun j=>
 some j)).bind fun i=>
 if i=true then
 (da (⟨a.2.1,(⟨a.2.2.1,a.2.2.2.1,a.2.2.2.2.1⟩:ai),a.2.2.2.2.2⟩:aa) a.1 3 0 0).bind fun d=>
 some (d.L,d.At.Row,d.At.Col,d.At.Pending,d.Auto)
 else
 some (a.2.1,a.2.2.1,a.2.2.2.1,a.2.2.2.2.1,a.2.2.2.2.2)).bind fun e=>
 some (.inl ((w64 (a.1+1)),e.1,e.2.1,e.2.2.1,e.2.2.2.1,e.2.2.2.2))
 else
 some (.inr (a.2.1,a.2.2.1,a.2.2.2.1,a.2.2.2.2.1,a.2.2.2.2.2))) (0,b.L,b.At.Row,b.At.Col,b.At.Pending,b.Auto)).bind fun c=>
 some (⟨c.1,(⟨c.2.1,c.2.2.1,c.2.2.2.1⟩:ai),c.2.2.2.2⟩:aa)
theorem qo (O0:Own c0 G F) (b:aa) (t:Int) (g:Int){r:aa}(h2:Sl am c0 v1 b.L) (H:fM b t g=some r): Calls prog 140 #[.agg #[v1,I b.At.Row,I b.At.Col,B b.At.Pending,B b.Auto],I t,I g] c0.w (aR c0 fun c v=>∃y1 y2,Own c G (es true am y1 48 y2 r.L::F)/\v= .agg #[y1,I r.At.Row,I r.At.Col,B r.At.Pending,B r.Auto]/\OA am c y1 y2 r.L):=by
 unfold fM at H;refine en func140 rfl rfl (sr ?_);obtain ⟨a3,a4,a5,rfl⟩:=(h2).form;refine me (al 31 [.slice a3 a4 a5,I b.At.Row,I b.At.Col,B b.At.Pending,B b.Auto] O0) ?_;rintro v9 c8 l8 ⟨f,rfl,O7⟩;refine me (al 31 [Y,I 0,I 0,B false,B false] O7) ?_;rintro v13 n4 t4 ⟨n,rfl,w2⟩;refine wln (sr (me (sl (RI .i64) 3 [[I 2],[I 1],[I 3]] ([2,1,3]:List Int) w2 ⟨rfl,rfl,rfl,trivial⟩) ?_));rintro v18 o4 u4 ⟨q,x2,b1⟩;refine va (v18) (wln (W.seq (rD [12] (Kp G0 [(Eb f 31 [.slice a3 a4 a5,I b.At.Row,I b.At.Col,B b.At.Pending,B b.Auto]),es true (RI .i64) v18 3 q ([2,1,3]:List Int)]) x2 ?_)));intro c3 o3 l0;have g0:Kp G0 [(Eb f 31 [.slice a3 a4 a5,I b.At.Row,I b.At.Col,B b.At.Pending,B b.Auto]),es true (RI .i64) v18 3 q ([2,1,3]:List Int)] c3:=(Kp.cons (l0.on 2 rfl) (Kp.cons (l0.on 0 rfl) Kp.nil0));refine tkx 0 g0 (fun c' f0 X=>leN 31 0 [.slice a3 a4 a5,I b.At.Row,I b.At.Col,B b.At.Pending,B b.Auto] (X.on 0 rfl)) (ta 1 (Qo f 1) (ta 2 (Qo f 1) (tkx 3 g0 (fun c' f0 X=>le1 1 u_3 (X.on 0 rfl)) (ta 4 (v18) (ta 5 (I g) (bn H fun e1 c1 H=>tx 6 (fun c' f0=>ixO lm b1.m c1) ?_))))));obtain ⟨l4,h3,s3⟩:=OA.at (b1.mono o3) c1;obtain rfl:=h3;refine AC.takeK 7 (I e1) g0 rfl (by kernel_rfl) (by kernel_rfl) (by kernel_rfl) (fun c' f0 X=>(rx (by kernel_rfl) (lI u_3 rfl (X.on 1 rfl) (b1.m.blk c1) (at1 (j:=0) s3 rfl)))) (ta 8 (Qo f 1) (ta 9 (Qo f 2) (tkx 10 g0 (fun c' f0 X=>le1 2 u_3 (X.on 0 rfl)) (bn H fun u i3 H=>o1 11 (gc 11 (lh l0 b b.At.Row e1 b.At.Col 0 h2.m i3) ?_)))));rintro v35 d3 v4 ⟨v27,u3,m0,rfl,d1⟩;have t3:Kp G0 [(Eb f 31 [.slice a3 a4 a5,I b.At.Row,I b.At.Col,B b.At.Pending,B b.Auto]),es true (RI .i64) v18 3 q ([2,1,3]:List Int)] d3:=(Kp.cons (m0.on 3 rfl) (Kp.cons (m0.on 1 rfl) Kp.nil0));refine ⟨.inr t3,?_⟩;obtain ⟨j1,k1,m1,rfl⟩:=(d1).form;refine o1 12 (gD 12 (sA 31 [.slice j1 k1 m1,I u.At.Row,I u.At.Col,B u.At.Pending,B u.Auto] 3 m0 ⟨(d1).one,rfl,rfl,rfl,rfl,trivial⟩) ?_);rintro z0 w4 z2;refine ⟨.inl rfl,dn (nrm (W.seq (sr (va (I 0) (wln (W.block (bn H fun d n1 i1=>lp n1 (fun a=>Jn z0 fun c l=>∃v44 s,Own c G (es true am v44 48 s a.2.1::es true (RI .i64) v18 3 q ([2,1,3]:List Int)::(Eb n 31 [Y,I 0,I 0,B false,B false])::(Eb f 31 [v44,I a.2.2.1,I a.2.2.2.1,B a.2.2.2.2.1,B a.2.2.2.2.2])::F)/\l= [(1,I t),(2,I g),(3,Q f),(6,Q n),(8,I a.1)]/\OA am c v44 s a.2.1) (fun i ex e w=>ex= .exit 0/\(Jn z0 fun c l=>∃v46 h0,Own c G (es true am v46 48 h0 i.1::es true (RI .i64) v18 3 q ([2,1,3]:List Int)::(Eb n 31 [Y,I 0,I 0,B false,B false])::(Eb f 31 [v46,I i.2.1,I i.2.2.1,B i.2.2.2.1,B i.2.2.2.2])::F)/\l= [(3,Q f),(6,Q n)]/\OA am c v46 h0 i.1) e w) ?_ ?_ ?_)))))))⟩
 ·clear i1 n1;intro a b5 f3 v3 H;revert f3 v3;rintro e_ w_ ⟨a1,q4,_,rfl,x4,rfl,v44,s,o0,rfl,d0⟩;refine W.seq (W.seq (bn H fun j2 q1 H=>W.join (Jn a1 fun c l=>Own c G (es true am v44 48 s a.2.1::es true (RI .i64) v18 3 q ([2,1,3]:List Int)::(Eb n 31 [Y,I 0,I 0,B false,B false])::(Eb f 31 [v44,I a.2.2.1,I a.2.2.2.1,B a.2.2.2.2.1,B a.2.2.2.2.2])::F)/\l= [(1,I t),(2,I g),(3,Q f),(6,Q n),(8,I a.1),(30,B j2)]) ?_ ?_))
  ·clear H;refine W.region (va (I a.1) (va (Q f) (vx (le1 0 fm (o0.on 3 rfl)) (vx (lnO 3 fm d0) (va (B (decide (a.1<(a.2.1.length:Int)))) ?_)))));rcases bo (decide (a.1<(a.2.1.length:Int))) with y|y
   ·have q2:=anT y q1;refine vb y (wa (I t) (wa (B (t==4)) ?_));cases q2;exact va (B (t==4)) (wln (jn a1 ⟨o0,rfl⟩))
   obtain rfl:=anF y q1;exact vb y (pz (va (B false) (wln (jn a1 ⟨o0,rfl⟩))))
  rintro e_ w_ ⟨o,r4,_,rfl,p3,rfl,k,rfl⟩;refine nrm (cn H (fun j3 H=>?_) (fun j3 H=>?_))
  ·refine W.skip (nrm (bn H fun p h s2=>W.seqJ (Jn o fun c l=>∃N i0,Own c G (es true am N 48 i0 p.1::es true (RI .i64) v18 3 q ([2,1,3]:List Int)::(Eb n 31 [Y,I 0,I 0,B false,B false])::(Eb f 31 [N,I p.2.1,I p.2.2.1,B p.2.2.2.1,B p.2.2.2.2])::F)/\l= [(1,I t),(2,I g),(3,Q f),(6,Q n),(8,I a.1)]/\OA am c N i0 p.1) ?_ ?_))
   ·refine W.block (W.seq (bn h fun c4 s1 h=>bn h fun k2 e0 h=>W.join (Jn o fun c l=>Own c G (es true am v44 48 s a.2.1::es true (RI .i64) v18 3 q ([2,1,3]:List Int)::(Eb n 31 [Y,I 0,I 0,B false,B false])::(Eb f 31 [v44,I a.2.2.1,I a.2.2.2.1,B a.2.2.2.2.1,B a.2.2.2.2.2])::F)/\l= [(1,I t),(2,I g),(3,Q f),(6,Q n),(8,I a.1),(56,B k2)]) ?_ ?_))
    ·clear h;refine W.region (va (I g) (va (B (g==2)) ?_));rcases bo (g==2) with z|z
     ·obtain rfl:=orT z s1;refine vb z (pz (pz (pz (pz (ps (va (B true) ?_))))));have t1:true=true:=rfl;obtain rfl:=orT t1 e0;exact vb t1 (pz (pz (pz (pz (ps (va (B true) (wln (jn o ⟨k,rfl⟩))))))))
     have Z:=orF z s1;refine vb z (wa (I g) (wa (B (g==0)) (wn (bn Z fun d4 u1 Z=>?_))));rcases bo (g==0) with A|A
     ·have t2:=anT A u1;refine vb A (wa (I a.1) (wa (Qo f 1) (wa (Qo f 1) (wn (vx (le1 1 u_3 (k.on 3 rfl)) (wa (B (decide (a.1>a.2.2.1))) (wn ?_)))))));cases t2;refine va (B (decide (a.1>a.2.2.1))) ?_;cases Z;refine va (B (decide (a.1>a.2.2.1))) ?_;rcases bo (decide (a.1>a.2.2.1)) with D|D
      ·obtain rfl:=orT D e0;exact vb D (pz (pz (pz (pz (ps (va (B true) (wln (jn o ⟨k,rfl⟩))))))))
      have a0:=orF D e0;refine vb D (wa (I g) (wa (B (g==1)) (wn (bn a0 fun l2 w1 a0=>?_))));rcases bo (g==1) with E|E
      ·have u2:=anT E w1;refine vb E (wa (I a.1) (wa (Qo f 1) (wa (Qo f 1) (wn (vx (le1 1 u_3 (k.on 3 rfl)) (wa (B (decide (a.1<a.2.2.1))) (wn ?_)))))));cases u2;refine va (B (decide (a.1<a.2.2.1))) ?_;cases a0;exact va (B (decide (a.1<a.2.2.1))) (wln (jn o ⟨k,rfl⟩))
      obtain rfl:=anF E w1;refine vb E (pz (pz (ps (wa (B false) ?_))));cases a0;exact va (B false) (wln (jn o ⟨k,rfl⟩))
     obtain rfl:=anF A u1;refine vb A (pz (pz (ps (wa (B false) ?_))));cases Z;refine va (B false) ?_;have x1:false=false:=rfl;have b0:=orF x1 e0;refine vb x1 (wa (I g) (wa (B (g==1)) (wn (bn b0 fun l2 z1 b0=>?_))));rcases bo (g==1) with M|M
     ·have v2:=anT M z1;refine vb M (wa (I a.1) (wa (Qo f 1) (wa (Qo f 1) (wn (vx (le1 1 u_3 (k.on 3 rfl)) (wa (B (decide (a.1<a.2.2.1))) (wn ?_)))))));cases v2;refine va (B (decide (a.1<a.2.2.1))) ?_;cases b0;exact va (B (decide (a.1<a.2.2.1))) (wln (jn o ⟨k,rfl⟩))
     obtain rfl:=anF M z1;refine vb M (pz (pz (ps (wa (B false) ?_))));cases b0;exact va (B false) (wln (jn o ⟨k,rfl⟩))
    rintro e_ w_ ⟨e3,s4,_,rfl,q3,rfl,q0,rfl⟩;refine nrm (cn h (fun k3 h=>?_) (fun k3 h=>?_))
    ·refine W.region (vx (leN 31 0 [v44,I a.2.2.1,I a.2.2.2.1,B a.2.2.2.2.1,B a.2.2.2.2.2] (q0.on 3 rfl)) (va (I a.1) ?_));obtain ⟨p4,m3,y4,b3,l3⟩:=q0.frz 0 rfl (d0.mono (p3.trans q3));refine WL.gh m3 (bn h fun x n3 h=>cl (lh b3 (⟨a.2.1,(⟨a.2.2.1,a.2.2.2.1,a.2.2.2.2.1⟩:ai),a.2.2.2.2.2⟩:aa) a.1 3 0 0 l3 n3) ?_);rintro m4 z3 g4 ⟨z4,n2,b2,rfl,T⟩;obtain ⟨s0,t0,u0,rfl⟩:=(T).form;refine md (sA 31 [.slice s0 t0 u0,I x.At.Row,I x.At.Col,B x.At.Pending,B x.Auto] 4 b2 ⟨(T).one,rfl,rfl,rfl,rfl,trivial⟩) ?_;rintro g2 h4 c2;refine WL.nil (bkn (nrm ?_));cases h;have d2:=c2.sD 5 [0,2,3,4];exact jn g2 ⟨(.slice s0 t0 u0),n2,d2,rfl,T.m⟩
    refine W.skip (bkn (nrm ?_));cases h;exact jn e3 ⟨v44,s,q0,rfl,d0.m⟩
   rintro e_ w_ ⟨i2,e4,_,rfl,i4,rfl,N,i0,e2,rfl,m2⟩;refine W.region (va (I a.1) (vv (I (w64 (a.1+1))) (WL.nil ?_)));cases s2;exact ⟨_,rfl,jn i2 ⟨N,i0,e2,rfl,m2⟩⟩
  refine W.exit (thx ?_);cases H;exact ⟨_,rfl,rfl,jn o ⟨v44,s,k,rfl,d0.m⟩⟩
 ·exact jn z0 ⟨(.slice j1 k1 m1),u3,z2,rfl,d1.m⟩
 rintro _ e_ w_ ⟨rfl,b4,f4,_,rfl,j4,rfl,v46,h0,j0,rfl,U⟩;refine bke (nrm (sr (vx (leN 31 0 [v46,I d.2.1,I d.2.2.1,B d.2.2.2.1,B d.2.2.2.2] (j0.on 3 rfl)) ?_)));obtain ⟨P,R,S,rfl⟩:=(U).form;refine md (sA 31 [.slice P R S,I d.2.1,I d.2.2.1,B d.2.2.2.1,B d.2.2.2.2] 2 j0 ⟨(U).one,rfl,rfl,rfl,rfl,trivial⟩) ?_;rintro y0 k4 k0;refine wln (W.ret ?_);cases i1;have f2:=k0.sD 4 [0];exact kv (c:=y0) (vs:=[.slice P R S,I d.2.1,I d.2.2.1,B d.2.2.2.1,B d.2.2.2.2]) rfl (by kernel_rfl) (by kernel_rfl) (by kernel_rfl) (k0.on 2 rfl _ rfl).1 ⟨_,y0,rfl,rfl,pt,(.slice P R S),h0,f2,rfl,U.m⟩
def fX (p0:aa) (p1:aM):Option (aa):=
 (cp p0).bind fun a=>
 (idx a.L a.At.Row).bind fun c=>
 (if (p1.Kind==2)=true then
 (cP (⟨a.L,(⟨a.At.Row,a.At.Col,false⟩:ai),a.Auto⟩:aa)).bind fun o=>
 (fc (⟨p1.A,p1.B,false⟩:ai) o (a.L.length:Int)).bind fun h=>
 some (c.Cells,false,a.L,h.Row,h.Col,h.Pending,a.Auto)
 else
 (if (p1.Kind==3)=true then
 some (p1.Kind==3)
 else
 some (p1.Kind==4)).bind fun p=>
 if p=true then
 (fM (⟨a.L,(⟨a.At.Row,a.At.Col,false⟩:ai),a.Auto⟩:aa) p1.Kind p1.A).bind fun f=>
 some (c.Cells,false,f.L,f.At.Row,f.At.Col,f.At.Pending,f.Auto)
 else
 if (p1.Kind==5)=true then
 (da (⟨a.L,(⟨a.At.Row,a.At.Col,false⟩:ai),a.Auto⟩:aa) a.At.Row 4 a.At.Col p1.A).bind fun g=>
 some (c.Cells,false,g.L,g.At.Row,g.At.Col,g.At.Pending,g.Auto)
 else
 if (p1.Kind==6)=true then
 (fw c.Cells a.At.Col p1.A).bind fun j=>
 some (j.1,j.2,a.L,a.At.Row,a.At.Col,false,a.Auto)
 else
 if (p1.Kind==7)=true then
 (fy c.Cells a.At.Col p1.A).bind fun i=>
 some (i.1,i.2,a.L,a.At.Row,a.At.Col,false,a.Auto)
 else
 (if (p1.Kind==8)=true then
 some (p1.Kind==8)
 else
 some (p1.Kind==9)).bind fun m=>
 if m=true then
 (dS a.L a.At.Row (a.L.length:Int) p1.A (p1.Kind==9)).bind fun k=>
 some (c.Cells,false,k,a.At.Row,0,false,a.Auto)
 else
 (if (p1.Kind==10)=true then
 some (p1.Kind==10)
 else
 some (p1.Kind==11)).bind fun n=>
 if n=true then
 (dS a.L 0 (a.L.length:Int) p1.A (p1.Kind==10)).bind fun l=>
 some (c.Cells,false,l,a.At.Row,a.At.Col,false,a.Auto)
 else
 if (p1.Kind==12)=true then
 some (c.Cells,false,a.L,a.At.Row,a.At.Col,false,p1.A != 0)
 else
 some (c.Cells,false,a.L,a.At.Row,a.At.Col,false,a.Auto)).bind fun b=>
 (if b.2.1=true then
 (co (⟨b.2.2.1,(⟨b.2.2.2.1,b.2.2.2.2.1,b.2.2.2.2.2.1⟩:ai),b.2.2.2.2.2.2⟩:aa) a.At.Row (⟨b.1,false⟩:aj)).bind fun d=>
 some (d.L,d.At.Row,d.At.Col,d.At.Pending,d.Auto)
 else
 some (b.2.2.1,b.2.2.2.1,b.2.2.2.2.1,b.2.2.2.2.2.1,b.2.2.2.2.2.2)).bind fun e=>
 some (⟨e.1,(⟨e.2.1,e.2.2.1,e.2.2.2.1⟩:ai),e.2.2.2.2⟩:aa)
theorem sY (O0:Own c0 G F) (x:aa) (b:aM){r:aa}(h2:Sl am c0 v1 x.L) (h4:Sl (RI .u8) c0 v3 b.Bytes) (H:fX x b=some r): Calls prog 90 #[.agg #[v1,I x.At.Row,I x.At.Col,B x.At.Pending,B x.Auto],.agg #[I b.Kind,I b.A,I b.B,v3]] c0.w (aR c0 fun c v=>∃y1,Own c G (F)/\v= .agg #[y1,I r.At.Row,I r.At.Col,B r.At.Pending,B r.Auto]/\Sl am c y1 r.L):=by
 unfold fX at H;refine en func90 rfl rfl (sr ?_);obtain ⟨a5,a6,a7,rfl⟩:=(h2).form;refine me (al 31 [.slice a5 a6 a7,I x.At.Row,I x.At.Col,B x.At.Pending,B x.Auto] O0) ?_;rintro v11 c8 y5 ⟨g,rfl,O9⟩;obtain ⟨d5,e5,f5,rfl⟩:=((h4.mono y5)).form;refine me (bx 38 [I b.Kind,I b.A,I b.B,.slice d5 e5 f5] O9) ?_;rintro v19 d8 k8 ⟨n,rfl,v4,p⟩;refine me (al 31 [Y,I 0,I 0,B false,B false] v4) ?_;rintro v23 e8 l8 ⟨s,rfl,b2⟩;refine wln (sr (vx (leN 31 0 [.slice a5 a6 a7,I x.At.Row,I x.At.Col,B x.At.Pending,B x.Auto] (b2.on 1 rfl)) (bn H fun a p5 H=>cl (dG b2 x h2.m p5) ?_)));rintro v32 f8 m8 ⟨v25,w4,rfl,k⟩;obtain ⟨h,i,j,rfl⟩:=(k).form;refine md (sA 31 [.slice h i j,I a.At.Row,I a.At.Col,B a.At.Pending,B a.Auto] 1 w4 ⟨k.one,rfl,rfl,rfl,rfl,trivial⟩) ?_;rintro g8 z5 x4;refine wln (sr (va (Qo g 1) (va (Qo g 3) (md (sC 4 3 (B false) [.slice h i j,I a.At.Row,I a.At.Col,B false,B a.Auto] 1 x4 ⟨rfl,trivial⟩) ?_))));rintro y0 b6 g0;refine wln (sr (vv (Qo g 1) (vx (le1 1 u_3 (g0.on 1 rfl)) (va (I a.At.Row) (wln (sr (va (Q g) (vx (le1 0 fm (g0.on 1 rfl)) (va (I a.At.Row) (bn H fun s1 j2 H=>?_))))))))));obtain ⟨q7,q5,d6⟩:=Sl.at (k.mono (z5.trans b6)) (aU j2);obtain ⟨v44,rfl,z⟩:=q5;refine vx (ix fm k.m j2) (va (Qo (sb (.slice h i j)) (so (.slice h i j)+a.At.Row.toNat*2)) (vx (l1 cy (d6 0 _ rfl)) (va (v44) (wln (sr (va (B false) (wln (bn H fun f y u4=>W.seqJ (Jn y0 fun c l=>∃v48 v49,Own c G ((Eb s 31 [Y,I 0,I 0,B false,B false])::(Eb g 31 [v48,I f.2.2.2.1,I f.2.2.2.2.1,B f.2.2.2.2.2.1,B f.2.2.2.2.2.2])::F)/\l= [(2,Q g),(4,Q s),(5,I a.At.Row),(6,v49),(7,B f.2.1)]/\Sl am c v48 f.2.2.1/\Sl ah c v49 f.1) ?_ ?_))))))))
 ·refine sr (va (Q n) (vx (l1 u_3 ((mm p) 0 _ rfl)) (wln (W.block (sr (vv (B (b.Kind==2)) (wln (cn y (fun r5 y=>?_) (fun r5 y=>?_)))))))))
  ·refine rD [12] (Kp G0 [(Eb g 31 [.slice h i j,I a.At.Row,I a.At.Col,B false,B a.Auto])]) g0 ?_;intro j5 n8 c2;have k2:Kp G0 [(Eb g 31 [.slice h i j,I a.At.Row,I a.At.Col,B false,B a.Auto])] j5:=(Kp.cons (c2.on 1 rfl) Kp.nil0);refine ta 0 (.pointer (some ⟨n,0+1,none⟩)) (tx 1 (fun c' z0=>l1 u_3 ((mm p) 1 _ rfl)) (ta 2 (Qo n (0+2)) (tx 3 (fun c' z0=>l1 u_3 ((mm p) 2 _ rfl)) (ta 4 (.agg #[I b.A,I b.B,B false]) (tkx 5 k2 (fun c' z0 hk=>leN 31 0 [.slice h i j,I a.At.Row,I a.At.Col,B false,B a.Auto] (hk.on 0 rfl)) (ta 7 (Q g) (tkx 8 k2 (fun c' z0 hk=>le1 0 fm (hk.on 0 rfl)) (tx 9 (fun c' z0=>ln 3 fm k.m) (bn y fun s4 s5 y=>o1 6 (gc 6 (gx c2 (⟨a.L,(⟨a.At.Row,a.At.Col,false⟩:ai),a.Auto⟩:aa) k.m s5) ?_))))))))));rintro v60 k5 o8 ⟨d2,rfl⟩;have e6:Kp G0 [(Eb g 31 [.slice h i j,I a.At.Row,I a.At.Col,B false,B a.Auto])] k5:=(Kp.cons (d2.on 1 rfl) Kp.nil0);refine ⟨.inr e6,bn y fun D t5 y=>o1 10 (gc 10 (nx d2 (⟨b.A,b.B,false⟩:ai) s4 (a.L.length:Int) t5) ?_)⟩;rintro v8 l5 p8 ⟨e2,rfl⟩;have f6:Kp G0 [(Eb g 31 [.slice h i j,I a.At.Row,I a.At.Col,B false,B a.Auto])] l5:=(Kp.cons (e2.on 1 rfl) Kp.nil0);refine ⟨.inr f6,ta 11 (.pointer (some ⟨g,1,none⟩)) (o1 12 (gD 12 (sB 29 1 [I D.Row,I D.Col,B D.Pending] [.slice h i j,I D.Row,I D.Col,B D.Pending,B a.Auto] 1 e2 ⟨rfl,rfl,rfl,trivial⟩) ?_))⟩;rintro m5 q8 y4;refine ⟨.inl rfl,dn (bkn (nrm ?_))⟩;cases y;exact jn m5 ⟨(.slice h i j),v44,y4,rfl,k.m,z.m⟩
  refine bn y fun t4 f0 e=>W.seqJ (Jn y0 fun c l=>Own c G ((Eb s 31 [Y,I 0,I 0,B false,B false])::(Eb g 31 [.slice h i j,I a.At.Row,I a.At.Col,B false,B a.Auto])::F)/\l= [(2,Q g),(3,Q n),(4,Q s),(5,I a.At.Row),(6,v44),(7,B false),(22,I b.Kind),(37,B t4)]) ?_ ?_
  ·refine sr (vv (B (b.Kind==3)) (wln (cn f0 (fun u5 f0=>?_) (fun u5 f0=>?_))))
   ·refine W.skip (nrm ?_);cases f0;exact jn y0 ⟨g0,rfl⟩
   refine W.region (vv (B (b.Kind==4)) (wln ?_));cases f0;exact jn y0 ⟨g0,rfl⟩
  rintro e_ w_ ⟨k1,j8,_,rfl,r8,rfl,q,rfl⟩;refine cn e (fun v5 e=>?_) (fun v5 e=>?_)
  ·refine W.region (vx (leN 31 0 [.slice h i j,I a.At.Row,I a.At.Col,B false,B a.Auto] (q.on 1 rfl)) (va (Q n) (vx (l1 u_3 ((mm p) 0 _ rfl)) (va (Qo n (0+1)) (vx (l1 u_3 ((mm p) 1 _ rfl)) (bn e fun d0 w5 e=>cl (qo q (⟨a.L,(⟨a.At.Row,a.At.Col,false⟩:ai),a.Auto⟩:aa) b.Kind b.A k.m w5) ?_))))));rintro x8 h8 s8 ⟨w8,u8,z4,rfl,q1⟩;obtain ⟨f2,g2,i2,rfl⟩:=(q1).form;refine md (sA 31 [.slice f2 g2 i2,I d0.At.Row,I d0.At.Col,B d0.At.Pending,B d0.Auto] 2 z4 ⟨(q1).one,rfl,rfl,rfl,rfl,trivial⟩) ?_;rintro i8 c6 b5;refine WL.nil (bkn (nrm ?_));cases e;obtain ⟨n5,q3,t8,c5,x5⟩:=b5.frz 0 rfl (q1.mono c6);have m2:=c5.sD 3 [1,2];exact ⟨n5,_,_,q3.symm,pt,us,(.slice f2 g2 i2),v44,m2,rfl,x5,z.m⟩
  refine sr (vv (B (b.Kind==5)) (wln (cn e (fun s3 e=>?_) (fun s3 e=>?_))))
  ·refine W.region (vx (leN 31 0 [.slice h i j,I a.At.Row,I a.At.Col,B false,B a.Auto] (q.on 1 rfl)) (va (I a.At.Row) (va (Qo g 1) (va (Qo g 2) (vx (le1 2 u_3 (q.on 1 rfl)) (va (Qo n (0+1)) (vx (l1 u_3 ((mm p) 1 _ rfl)) (bn e fun e0 t3 e=>cl (lh q (⟨a.L,(⟨a.At.Row,a.At.Col,false⟩:ai),a.Auto⟩:aa) a.At.Row 4 a.At.Col b.A k.m t3) ?_))))))));rintro u7 l6 y6 ⟨t7,r7,n2,rfl,s0⟩;obtain ⟨c1,d1,e1,rfl⟩:=(s0).form;refine md (sA 31 [.slice c1 d1 e1,I e0.At.Row,I e0.At.Col,B e0.At.Pending,B e0.Auto] 2 n2 ⟨(s0).one,rfl,rfl,rfl,rfl,trivial⟩) ?_;rintro m6 q4 o2;refine WL.nil (bkn (nrm ?_));cases e;obtain ⟨i3,w3,z6,p2,u3⟩:=o2.frz 0 rfl (s0.mono q4);have q2:=p2.sD 3 [1,2];exact ⟨i3,_,_,w3.symm,pt,us,(.slice c1 d1 e1),v44,q2,rfl,u3,z.m⟩
  refine sr (vv (B (b.Kind==6)) (wln (cn e (fun x3 e=>?_) (fun x3 e=>?_))))
  ·refine W.region (va (v44) (va (Qo g 1) (va (Qo g 2) (vx (le1 2 u_3 (q.on 1 rfl)) (va (Qo n (0+1)) (vx (l1 u_3 ((mm p) 1 _ rfl)) (bn e fun x0 y3 e=>cl (pZ q s1.Cells a.At.Col b.A z.m y3) ?_)))))));rintro v7 j3 b7 ⟨X,s2,rfl,z3⟩;refine va (.tuple #[X,B x0.2]) (va (X) (va (B x0.2) (va (X) (va (B x0.2) (WL.nil (bkn (nrm ?_)))))));cases e;exact jn j3 ⟨(.slice h i j),X,s2,rfl,k.m,z3⟩
  refine sr (vv (B (b.Kind==7)) (wln (cn e (fun a4 e=>?_) (fun a4 e=>?_))))
  ·refine W.region (va (v44) (va (Qo g 1) (va (Qo g 2) (vx (le1 2 u_3 (q.on 1 rfl)) (va (Qo n (0+1)) (vx (l1 u_3 ((mm p) 1 _ rfl)) (bn e fun b0 b4 e=>cl (qa q s1.Cells a.At.Col b.A z.m b4) ?_)))))));rintro w7 k3 c7 ⟨Z,t2,rfl,c4⟩;refine va (.tuple #[Z,B b0.2]) (va (Z) (va (B b0.2) (va (Z) (va (B b0.2) (WL.nil (bkn (nrm ?_)))))));cases e;exact jn k3 ⟨(.slice h i j),Z,t2,rfl,k.m,c4⟩
  refine bn e fun x1 M t=>W.seqJ (Jn k1 fun c l=>Own c G ((Eb s 31 [Y,I 0,I 0,B false,B false])::(Eb g 31 [.slice h i j,I a.At.Row,I a.At.Col,B false,B a.Auto])::F)/\l= [(2,Q g),(3,Q n),(4,Q s),(5,I a.At.Row),(6,v44),(7,B false),(22,I b.Kind),(80,B x1)]) ?_ ?_
  ·refine sr (vv (B (b.Kind==8)) (wln (cn M (fun d4 M=>?_) (fun d4 M=>?_))))
   ·refine W.skip (nrm ?_);cases M;exact jn k1 ⟨q,rfl⟩
   refine W.region (vv (B (b.Kind==9)) (wln ?_));cases M;exact jn k1 ⟨q,rfl⟩
  rintro e_ w_ ⟨q0,t6,_,rfl,d7,rfl,P,rfl⟩;refine cn t (fun e4 t=>?_) (fun e4 t=>?_)
  ·refine sr (va (Q g) (vx (le1 0 fm (P.on 1 rfl)) (va (I a.At.Row) (va (Q g) (vx (le1 0 fm (P.on 1 rfl)) (vx (ln 3 fm k.m) (va (Qo n (0+1)) (vx (l1 u_3 ((mm p) 1 _ rfl)) (va (Q n) (vx (l1 u_3 ((mm p) 0 _ rfl)) (va (B (b.Kind==9)) (bn t fun h6 f4 t=>cl (kL P a.L a.At.Row (a.L.length:Int) b.A (b.Kind==9) k.m f4) ?_))))))))))));rintro x7 n6 e7 ⟨_,u2,rfl,t0⟩;refine va (Q g) ?_;obtain ⟨S,T,U,rfl⟩:=(t0).form;refine md (sC 27 0 (.slice S T U) [.slice S T U,I a.At.Row,I a.At.Col,B false,B a.Auto] 1 u2 ⟨t0.one,trivial⟩) ?_;rintro o6 f7 v2;refine wln (W.region (va (Qo g 1) (va (Qo g 2) (md (sC 3 2 (I 0) [.slice S T U,I a.At.Row,I 0,B false,B a.Auto] 1 v2 ⟨rfl,trivial⟩) ?_))));rintro l3 g7 w2;refine WL.nil (bkn (nrm ?_));cases t;exact jn l3 ⟨(.slice S T U),v44,w2,rfl,t0.m,z.m⟩
  refine bn t fun z1 N o=>W.seqJ (Jn q0 fun c l=>Own c G ((Eb s 31 [Y,I 0,I 0,B false,B false])::(Eb g 31 [.slice h i j,I a.At.Row,I a.At.Col,B false,B a.Auto])::F)/\l= [(2,Q g),(3,Q n),(4,Q s),(5,I a.At.Row),(6,v44),(7,B false),(22,I b.Kind),(98,B z1)]) ?_ ?_
  ·refine sr (vv (B (b.Kind==10)) (wln (cn N (fun g4 N=>?_) (fun g4 N=>?_))))
   ·refine W.skip (nrm ?_);cases N;exact jn q0 ⟨P,rfl⟩
   refine W.region (vv (B (b.Kind==11)) (wln ?_));cases N;exact jn q0 ⟨P,rfl⟩
  rintro e_ w_ ⟨m3,u6,_,rfl,h7,rfl,R,rfl⟩;refine cn o (fun i4 o=>?_) (fun i4 o=>?_)
  ·refine W.region (va (Q g) (vx (le1 0 fm (R.on 1 rfl)) (va (Q g) (vx (le1 0 fm (R.on 1 rfl)) (vx (ln 3 fm k.m) (va (Qo n (0+1)) (vx (l1 u_3 ((mm p) 1 _ rfl)) (va (Q n) (vx (l1 u_3 ((mm p) 0 _ rfl)) (va (B (b.Kind==10)) (bn o fun i6 j4 o=>cl (kL R a.L 0 (a.L.length:Int) b.A (b.Kind==10) k.m j4) ?_)))))))))));rintro y7 p6 i7 ⟨_,x2,rfl,u0⟩;refine va (Q g) ?_;obtain ⟨i0,j0,k0,rfl⟩:=(u0).form;refine md (sC 27 0 (.slice i0 j0 k0) [.slice i0 j0 k0,I a.At.Row,I a.At.Col,B false,B a.Auto] 1 x2 ⟨u0.one,trivial⟩) ?_;rintro n3 j7 y2;refine WL.nil (bkn (nrm ?_));cases o;exact jn n3 ⟨(.slice i0 j0 k0),v44,y2,rfl,u0.m,z.m⟩
  refine sr (vv (B (b.Kind==12)) (wln (cn o (fun k4 o=>?_) (fun k4 o=>?_))))
  ·refine W.region (va (Qo n (0+1)) (vx (l1 u_3 ((mm p) 1 _ rfl)) (va (B (b.A != 0)) (va (Qo g 4) (md (sC 4 4 (B (b.A != 0)) [.slice h i j,I a.At.Row,I a.At.Col,B false,B (b.A != 0)] 1 R ⟨rfl,trivial⟩) ?_)))));rintro o3 k7 z2;refine WL.nil (bkn (nrm ?_));cases o;exact jn o3 ⟨(.slice h i j),v44,z2,rfl,k.m,z.m⟩
  refine W.skip (bkn (nrm ?_));cases o;exact jn m3 ⟨(.slice h i j),v44,R,rfl,k.m,z.m⟩
 rintro e_ w_ ⟨i1,v6,_,rfl,l7,rfl,v48,v49,h0,rfl,m1,n1⟩;refine bn u4 fun d u l2=>W.seqJ (Jn i1 fun c l=>∃a0,Own c G ((Eb s 31 [Y,I 0,I 0,B false,B false])::(Eb g 31 [a0,I d.2.1,I d.2.2.1,B d.2.2.2.1,B d.2.2.2.2])::F)/\l= [(2,Q g),(4,Q s)]/\Sl am c a0 d.1) ?_ ?_
 ·refine sr (va (B f.2.1) (wln (cn u (fun l4 u=>?_) (fun l4 u=>?_))))
  ·refine W.region (vx (leN 31 0 [v48,I f.2.2.2.1,I f.2.2.2.2.1,B f.2.2.2.2.2.1,B f.2.2.2.2.2.2] (h0.on 1 rfl)) (va (I a.At.Row) (va (v49) ?_)));obtain ⟨f3,g3,h3,rfl⟩:=(n1).form;refine va (.agg #[.slice f3 g3 h3,B false]) (bn u fun E m4 u=>cl (gw h0 (⟨f.2.2.1,(⟨f.2.2.2.1,f.2.2.2.2.1,f.2.2.2.2.2.1⟩:ai),f.2.2.2.2.2.2⟩:aa) a.At.Row (⟨f.1,false⟩:aj) m1 n1 m4) ?_);rintro a8 q6 m7 ⟨z7,s7,a3,rfl,v0⟩;obtain ⟨f1,g1,h1,rfl⟩:=(v0).form;refine md (sA 31 [.slice f1 g1 h1,I E.At.Row,I E.At.Col,B E.At.Pending,B E.Auto] 2 a3 ⟨(v0).one,rfl,rfl,rfl,rfl,trivial⟩) ?_;rintro r6 r4 b3;refine wln ?_;cases u;obtain ⟨p3,o4,n7,c3,n4⟩:=b3.frz 0 rfl (v0.mono r4);have d3:=c3.sD 3 [1,2];exact ⟨p3,_,_,o4.symm,pt,us,(.slice f1 g1 h1),d3,rfl,n4⟩
  refine W.skip (nrm ?_);cases u;exact jn i1 ⟨v48,h0,rfl,m1⟩
 rintro e_ w_ ⟨s6,w6,_,rfl,o7,rfl,a0,a1,rfl,w0⟩;refine sr (vx (leN 31 0 [a0,I d.2.1,I d.2.2.1,B d.2.2.2.1,B d.2.2.2.2] (a1.on 1 rfl)) ?_);obtain ⟨l0,m0,o0,rfl⟩:=(w0).form;refine md (sA 31 [.slice l0 m0 o0,I d.2.1,I d.2.2.1,B d.2.2.2.1,B d.2.2.2.2] 0 a1 ⟨w0.one,rfl,rfl,rfl,rfl,trivial⟩) ?_;rintro j1 p7 b1;refine wln (W.ret ?_);cases l2;have e3:=b1.sD 2 [];exact kv (c:=j1) (vs:=[.slice l0 m0 o0,I d.2.1,I d.2.2.1,B d.2.2.2.1,B d.2.2.2.2]) rfl (by kernel_rfl) (by kernel_rfl) (by kernel_rfl) (b1.on 0 rfl _ rfl).1 ⟨_,j1,rfl,rfl,pt,(.slice l0 m0 o0),e3,rfl,w0.m⟩
def pR (p0:Er):Option (Int):=
 if p0.isNil=true then
 some 0
 else
 (ic p0 (Er.sent 0)).bind fun a=>
 if a=true then
 some 1
 else
 (ic p0 (Er.sent 1)).bind fun b=>
 if b=true then
 some 2
 else
 (ic p0 (Er.sent 2)).bind fun c=>
 if c=true then
 some 3
 else
 (ic p0 (Er.sent 3)).bind fun d=>
 if d=true then
 some 4
 else
 (ic p0 (Er.sent 4)).bind fun e=>
 if e=true then
 some 5
 else
 (ic p0 (Er.sent 5)).bind fun f=>
 if f=true then
 some 6
 else
 (ic p0 (Er.sent 6)).bind fun g=>
 if g=true then
 some 7
 else
 (ic p0 (Er.sent 7)).bind fun h=>
 if h=true then
 some 8
 else
 some 9
theorem A0 (O0:Own c0 G F) (hG:Gl [0,1,2,3,4,5,6,7] c0) (a:Er){r:Int}(e:RE 350 144 c0 v1 a) (H:pR a=some r): Calls prog 59 #[v1] c0.w (aR c0 fun c v=>Own c G (F)/\v=I r):=by
 unfold pR at H;refine en func59 rfl rfl (sr (va (I 0) (wln (W.seq (W.block (sr (va (v1) (vr (B a.isNil) (by rcases (e).cs with ⟨h,i⟩|⟨b_,h,i⟩|⟨b_,h,i⟩ <;> (subst h; rw [i]; kernel_rfl)) (va (B a.isNil) (wln (cn H (fun h3 H=>?_) (fun h3 H=>?_))))))))))))
 ·refine sr (va (I 0) (wln (W.ret (bkr (thr ?_)))));cases H;exact r1 (qq c0 ⟨O0,rfl⟩)
 refine sr (va (v1) ?_);obtain ⟨v4,h5⟩:=hG.get 0 (by decide);refine vx (l1 sU h5.im) (bn H fun N h6 H=>cl (jM O0 (hG.le (by decide)) a (Er.sent 0) e h5 h6) ?_);rintro v12 d0 b ⟨O8,rfl⟩;refine va (B N) (wln (cn H (fun k0 H=>?_) (fun k0 H=>?_)))
 ·refine sr (va (I 1) (wln (W.ret (bkr (thr ?_)))));cases H;exact r1 (qq d0 ⟨O8,rfl⟩)
 refine sr (va (v1) ?_);obtain ⟨v14,u⟩:=(hG.mono b).get 1 (by decide);refine vx (l1 sU u.im) (bn H fun P l0 H=>cl (jM O8 (hG.m.le (by decide)) a (Er.sent 1) e.m u l0) ?_);rintro v22 e0 d ⟨k,rfl⟩;refine va (B P) (wln (cn H (fun m0 H=>?_) (fun m0 H=>?_)))
 ·refine sr (va (I 2) (wln (W.ret (bkr (thr ?_)))));cases H;exact r1 (qq e0 ⟨k,rfl⟩)
 refine sr (va (v1) ?_);obtain ⟨v24,x⟩:=(hG.mono (b.trans d)).get 2 (by decide);refine vx (l1 sU x.im) (bn H fun R o0 H=>cl (jM k (hG.m.le (by decide)) a (Er.sent 2) e.m x o0) ?_);rintro v32 f0 f ⟨l,rfl⟩;refine va (B R) (wln (cn H (fun q0 H=>?_) (fun q0 H=>?_)))
 ·refine sr (va (I 3) (wln (W.ret (bkr (thr ?_)))));cases H;exact r1 (qq f0 ⟨l,rfl⟩)
 refine sr (va (v1) ?_);obtain ⟨v34,y⟩:=(hG.mono (b.trans (d.trans f))).get 3 (by decide);refine vx (l1 sU y.im) (bn H fun S s0 H=>cl (jM l (hG.m.le (by decide)) a (Er.sent 3) e.m y s0) ?_);rintro v42 g0 g ⟨n,rfl⟩;refine va (B S) (wln (cn H (fun t0 H=>?_) (fun t0 H=>?_)))
 ·refine sr (va (I 4) (wln (W.ret (bkr (thr ?_)))));cases H;exact r1 (qq g0 ⟨n,rfl⟩)
 refine sr (va (v1) ?_);obtain ⟨v44,z⟩:=(hG.mono (b.trans (d.trans (f.trans g)))).get 4 (by decide);refine vx (l1 sU z.im) (bn H fun T u0 H=>cl (jM n (hG.m.le (by decide)) a (Er.sent 4) e.m z u0) ?_);rintro v52 h0 j ⟨o,rfl⟩;refine va (B T) (wln (cn H (fun w0 H=>?_) (fun w0 H=>?_)))
 ·refine sr (va (I 5) (wln (W.ret (bkr (thr ?_)))));cases H;exact r1 (qq h0 ⟨o,rfl⟩)
 refine sr (va (v1) ?_);obtain ⟨v54,A⟩:=(hG.mono (b.trans (d.trans (f.trans (g.trans j))))).get 5 (by decide);refine vx (l1 sU A.im) (bn H fun U x0 H=>cl (jM o (hG.m.le (by decide)) a (Er.sent 5) e.m A x0) ?_);rintro i1 i0 M ⟨p,rfl⟩;refine va (B U) (wln (cn H (fun y0 H=>?_) (fun y0 H=>?_)))
 ·refine sr (va (I 6) (wln (W.ret (bkr (thr ?_)))));cases H;exact r1 (qq i0 ⟨p,rfl⟩)
 refine sr (va (v1) ?_);obtain ⟨j1,D⟩:=(hG.mono (b.trans (d.trans (f.trans (g.trans (j.trans M)))))).get 6 (by decide);refine vx (l1 sU D.im) (bn H fun X z0 H=>cl (jM p (hG.m.le (by decide)) a (Er.sent 6) e.m D z0) ?_);rintro k1 j0 d1 ⟨q,rfl⟩;refine va (B X) (wln (cn H (fun a1 H=>?_) (fun a1 H=>?_)))
 ·refine sr (va (I 7) (wln (W.ret (bkr (thr ?_)))));cases H;exact r1 (qq j0 ⟨q,rfl⟩)
 refine sr (va (v1) ?_);obtain ⟨m1,E⟩:=(hG.mono (b.trans (d.trans (f.trans (g.trans (j.trans (M.trans d1))))))).get 7 (by decide);refine vx (l1 sU E.im) (bn H fun Z b1 H=>cl (jM q (hG.m.le (by decide)) a (Er.sent 7) e.m E b1) ?_);rintro n1 t h1 ⟨s,rfl⟩;refine va (B Z) (wln (cn H (fun c1 H=>?_) (fun c1 H=>?_)))
 ·refine sr (va (I 8) (wln (W.ret (bkr (thr ?_)))));cases H;exact r1 (qq t ⟨s,rfl⟩)
 refine W.skip (bkn (nrm (sr (va (I 9) (wln (W.ret ?_))))));cases H;exact r1 (qq t ⟨s,rfl⟩)
def jQ (sg:Sto) (p0:Int) (p1:Int):Option (Sto×(Option Nat)):=
 (nf sg p0 p1).bind fun b=>
 (nT b.1 b.2).bind fun c=>
 (some (c.1.add_screen_Screen (⟨c.2,b.2⟩:eQ))).bind fun a=>
 some (a,(some c.1.screen_Screen.length))
theorem pV (O0:Own c0 G F) (R0:Rel c0 sg G) (g:Int) (h:Int){r:Sto×(Option Nat)}(H:jQ sg g h=some r): Calls prog 32 #[I g,I h] c0.w (aR c0 fun c v=>∃y1,∃G_:Gm,Own c G_ (F)/\Rel c r.1 G_/\eV G G_/\v=y1/\Pt 5 c y1 r.2):=by
 unfold jQ at H;refine en func32 rfl rfl (sr (va (.pointer none) (wln (sr (va (I g) (va (I h) (bn H fun n h1 H=>cl (zP O0 R0 g h h1) ?_)))))));rintro v2 c8 l8 ⟨_,G4,O5,R6,a7,rfl,p⟩;have D:=(eV.refl _).trans a7;refine va (v2) (wln (sr (va (v2) (bn H fun o R H=>cl (AY O5 R6 n.2 p R) ?_))));rintro v12 j0 m ⟨_,i0,t,A,M,rfl,l⟩;have j:=D.trans M;refine va (v2) ?_;obtain ⟨d,rfl⟩:=(l).form;obtain ⟨e,rfl⟩:=((p.mono m)).form;refine va (.agg #[.pointer d,.pointer e]) (me (al 131 [.pointer d,.pointer e] t) ?_);rintro v26 k0 f ⟨a,rfl,u⟩;have y:=u.sD 1 [0];refine bn H fun q S H=>?_;obtain ⟨k,s,T,o0,U,z,i,l0,X,N⟩:=Rel.new_screen_Screen (E:=[(Eb a 131 [.pointer d,.pointer e])]) (F:=F) (x:=(⟨o.2,n.2⟩:eQ)) (b:=a) y (A.mono f) (fun c_ hle_=>⟨a,(.pointer d),(.pointer e),rfl,rfl,(l.mono (f.trans hle_)),(p.mono ((m.trans f).trans hle_))⟩);rw [bj S] at i;refine WL.gh T.1 ?_;have m0:=eV.nil j X;have P:=j.trans N;have Z:Pt 5 k (Q a) (some o.1.screen_Screen.length):=⟨a,rfl,U⟩;refine va (Q a) (wln (W.ret ?_));cases H;exact r1 (qq k ⟨(Q a),s,z,i,P,rfl,Z⟩)
def eR (sg:Sto) (p0:Option Nat) (p1:aM):Option (Sto×Er):=
 if p0.isNone=true then
 some (sg,(Er.sent 7))
 else
 if (p1.Kind==0)=true then
 (p0).bind fun g=>
 (sg.screen_Screen[g]?).bind fun i=>
 (gX sg i.Feeder p1.Bytes).bind fun o=>
 some (o,Er.nil)
 else
 if (p1.Kind==1)=true then
 (p0).bind fun h=>
 (sg.screen_Screen[h]?).bind fun j=>
 (gW sg j.Feeder).bind fun p=>
 some (p,Er.nil)
 else
 if (p1.Kind==13)=true then
 (p0).bind fun a=>
 (sg.screen_Screen[a]?).bind fun k=>
 (dp sg k.Feeder).bind fun c=>
 (c.screen_Screen[a]?).bind fun l=>
 (lx c l.pen p1.A p1.B).bind fun q=>
 some (q,Er.nil)
 else
 (kW p1).bind fun d=>
 if (!d.isNil)=true then
 some (sg,d)
 else
 (p0).bind fun b=>
 (sg.screen_Screen[b]?).bind fun m=>
 (dp sg m.Feeder).bind fun e=>
 (e.screen_Screen[b]?).bind fun n=>
 (pg e n.pen p1).bind fun f=>
 some (f.1,f.2)
theorem lL (O0:Own c0 G F) (d:Rel c0 sg G) (hG:Gl [2,4,7] c0) (p0:Option Nat) (a:aM){r:Sto×Er}(t:Pt 5 c0 v1 p0) (z:Sl (RI .u8) c0 v3 a.Bytes) (H:eR sg p0 a=some r): Calls prog 66 #[v1,.agg #[I a.Kind,I a.A,I a.B,v3]] c0.w (aR c0 fun c v=>∃y1,∃G_:Gm,Own c G_ (F)/\Rel c r.1 G_/\v=y1/\RE 350 144 c y1 r.2):=by
 unfold eR at H;refine en func66 rfl rfl (sr ?_);obtain ⟨a5,a6,a7,rfl⟩:=(z).form;refine me (bx 38 [I a.Kind,I a.A,I a.B,.slice a5 a6 a7] O0) ?_;rintro v12 s1 b ⟨y,rfl,l,h⟩;refine va (.nilIface) (wln (W.seq (sr (va (v1) (vr (B p0.isNone) (by rcases t.m.cs with ⟨e,f⟩|⟨b_,e,f⟩ <;> (subst e; rw [f]; kernel_rfl)) (wln (cn H (fun c2 H=>?_) (fun c2 H=>?_))))))))
 ·refine sr ?_;obtain ⟨v14,S⟩:=(hG.mono b).get 7 (by decide);refine vx (l1 sU S.im) (va (v14) (wln (W.ret (thr ?_))));cases H;exact r1 (qq s1 ⟨v14,G,l,d.m,rfl,S⟩)
 refine W.skip (nrm (W.seq (sr (va (Q y) (vx (l1 u_3 (h 0 _ rfl)) (wln (W.block (sr (vv (B (a.Kind==0)) (wln (cn H (fun d2 H=>?_) (fun d2 H=>?_))))))))))))
 ·refine rD [6] (Kp G []) l ?_;intro t1 Z E;have i3:Kp G [] t1:=(Kp.nil E);refine ta 0 (v1) (bn H fun t3 f2 H=>?_);obtain ⟨P,rfl,e2⟩:=((t.mono (b.trans Z))).get f2;refine ta 1 (Q P) (ta 2 (Q P) (bn H fun u0 g2 H=>?_));obtain ⟨v24,v26,j2,i2,n4⟩:=Rel.open_screen_Screen (d.mono (b.trans Z)) g2 e2;refine tkx 3 i3 (fun n g u=>le1 0 Bd (u.gon j2 0 rfl)) (ta 4 (Qo y (0+3)) (tx 5 (fun n g=>l1 lW ((mm h) 3 _ rfl)) (bn H fun f4 k2 H=>o1 6 (gc 6 (sy E d.m (hG.m.le (by decide)) u0.Feeder a.Bytes i2 z.m k2) ?_))));rintro v35 u1 r4 ⟨d1,g1,k1,rfl⟩;refine ⟨.inl rfl,dn (bkn (nrm (sr (va (.nilIface) (wln (W.ret ?_))))))⟩;cases H;exact r1 (qq u1 ⟨.nilIface,d1,g1,k1,rfl,rfl⟩)
 refine sr (vv (B (a.Kind==1)) (wln (cn H (fun l2 H=>?_) (fun l2 H=>?_))))
 ·refine W.region (va (v1) (bn H fun u3 n2 H=>?_));obtain ⟨R,rfl,m2⟩:=((t.mono b)).get n2;refine vv (Q R) (bn H fun v0 o2 H=>?_);obtain ⟨v41,v43,q2,p2,o4⟩:=Rel.open_screen_Screen (d.mono b) o2 m2;refine vx (le1 0 Bd (l.gon q2 0 rfl)) (bn H fun g4 s2 H=>cl (sx l d.m (hG.m.le (by decide)) v0.Feeder p2 s2) ?_);rintro v52 w1 s4 ⟨e1,h1,m1,rfl⟩;refine WL.nil (bkn (nrm (sr (va (.nilIface) (wln (W.ret ?_))))));cases H;exact r1 (qq w1 ⟨.nilIface,e1,h1,m1,rfl,rfl⟩)
 refine sr (vv (B (a.Kind==13)) (wln (cn H (fun t2 H=>?_) (fun t2 H=>?_))))
 ·refine sr (va (v1) (bn H fun w3 u2 H=>?_));obtain ⟨i,rfl,T⟩:=((t.mono b)).get u2;refine vv (Q i) (bn H fun w0 v2 H=>?_);obtain ⟨v58,v60,x2,w2,p4⟩:=Rel.open_screen_Screen (d.mono b) v2 T;refine vx (le1 0 Bd (l.gon x2 0 rfl)) (bn H fun i4 y2 H=>cl (jy l d.m w0.Feeder w2 y2) ?_);rintro v4 m4 t4 ⟨D,i1,N,rfl⟩;refine wln (rD [8] (Kp D []) i1 ?_);intro x1 h3 M;have j3:Kp D [] x1:=(Kp.nil M);refine ta 0 (Q i) (ta 1 (Q i) (ta 2 (Qo i 1) (bn H fun x0 z2 H=>?_)));obtain ⟨w4,x4,b3,q4,a3⟩:=Rel.open_screen_Screen (N.mono h3) z2 (tm T);refine tkx 3 j3 (fun n g u=>le1 1 uX (u.gon b3 0 rfl)) (ta 4 (Qo y (0+1)) (tx 5 (fun n g=>l1 u_3 ((mm h) 1 _ rfl)) (ta 6 (Qo y (0+2)) (tx 7 (fun n g=>l1 u_3 ((mm h) 2 _ rfl)) (bn H fun j4 c3 H=>o1 8 (gc 8 (xd M N.m (hG.m.le (by decide)) x0.pen a.A a.B a3 c3) ?_))))));rintro y4 z1 u4 ⟨f1,j1,n1,rfl⟩;refine ⟨.inl rfl,dn (bkn (nrm (sr (va (.nilIface) (wln (W.ret ?_))))))⟩;cases H;exact r1 (qq z1 ⟨.nilIface,f1,j1,n1,rfl,rfl⟩)
 refine W.seq (sr (vx (lN 38 h) (bn H fun c1 d3 H=>cl (ug l (hG.m.le (by decide)) a z.m d3) ?_)));rintro k b2 a0 ⟨_,q,rfl,U⟩;refine va (k) (wln (sr (va (k) (vr (B (!c1.isNil)) (by rcases (U).cs with ⟨e,f⟩|⟨b_,e,f⟩|⟨b_,e,f⟩ <;> (subst e; rw [f]; kernel_rfl)) (wln (cn H (fun e3 H=>?_) (fun e3 H=>?_)))))))
 ·refine sr (vv (k) (wln (W.ret (thr (bkr (thr ?_))))));cases H;exact r1 (qq b2 ⟨k,G,q,d.m,rfl,U⟩)
 refine W.skip (nrm (sr (va (v1) (bn H fun x3 f3 H=>?_))));obtain ⟨j,rfl,X⟩:=((t.mono (b.trans a0))).get f3;refine vv (Q j) (bn H fun y0 g3 H=>?_);obtain ⟨a4,b4,j0,i0,q3⟩:=Rel.open_screen_Screen (d.mono (b.trans a0)) g3 X;refine vx (le1 0 Bd (q.gon j0 0 rfl)) (bn H fun k4 k0 H=>cl (jy q d.m y0.Feeder i0 k0) ?_);rintro c4 p3 y3 ⟨o,d0,s,rfl⟩;refine wln (W.seq (rD [5] (Kp o []) d0 ?_));intro g0 t0 p;have b1:Kp o [] g0:=(Kp.nil p);refine ta 0 (Q j) (ta 1 (Q j) (ta 2 (Qo j 1) (bn H fun z0 l0 H=>?_)));obtain ⟨d4,e4,o0,s3,m0⟩:=Rel.open_screen_Screen (s.mono t0) l0 (tm X);refine tkx 3 b1 (fun n g u=>le1 1 uX (u.gon o0 0 rfl)) (tx 4 (fun n g=>lN 38 (mm h)) (bn H fun l4 q0 H=>o1 5 (gc 5 (CM p s.m (hG.m.le (by decide)) z0.pen a m0 z.m q0) ?_)));rintro x h0 z3 ⟨_,b0,e0,f0,rfl,s0⟩;refine ⟨.inl rfl,ta 6 (x) (dn (nrm (W.ret (bkr (thr ?_)))))⟩;cases H;exact r1 (qq h0 ⟨x,b0,e0,f0,rfl,s0⟩)
def fE (sg:Sto) (p0:Option Nat) (p1:List aM):Option (Sto×Er):=
 (cL (σ:=Er×Int×Sto) (τ:=(Er×Sto)) (((p1.length:Int)-0).toNat+1) (fun a=>
 if (decide (a.2.1<(p1.length:Int)))=true then
 ((idx p1 a.2.1).bind fun f=>
 (eR a.2.2 p0 f).bind fun b=>
 (bT (!b.2.isNil) (some a.1.isNil)).bind fun e=>
 if e=true then
 (vg a.2.1 b.2).bind fun g=>
 some (g,b.1)
 else
 some (a.1,b.1)).bind fun c=>
 some (.inl (c.1,(w64 (a.2.1+1)),c.2))
 else
 some (.inr (a.1,a.2.2))) (Er.nil,0,sg)).bind fun d=>
 some (d.2,d.1)
theorem se (O0:Own c0 G F) (R0:Rel c0 sg G) (hG:Gl [2,4,7] c0) (p0:Option Nat) (j:List aM){r:Sto×Er}(h2:Pt 5 c0 v1 p0) (Z:Sl jK c0 v3 j) (H:fE sg p0 j=some r): Calls prog 33 #[v1,v3] c0.w (aR c0 fun c v=>∃y1,∃G_:Gm,Own c G_ (F)/\Rel c r.1 G_/\v=y1/\RE 350 144 c y1 r.2):=by
 unfold fE at H;refine en func33 rfl rfl (sr (va (.nilIface) (wln (sr (va (.nilIface) (wln (W.seq (sr (va (v3) (vx (ln 3 nK Z) (va (I 0) (wln (W.block (bn H fun o2 h5 H6=>lp h5 (fun a=>Jn c0 fun c l=>∃v7 G_,Own c G_ (F)/\l= [(0,v1),(5,v7),(9,v3),(10,I (j.length:Int)),(11,I a.2.1)]/\Rel c a.2.2 G_/\RE 350 144 c v7 a.1) (fun u ex e w=>ex= .exit 0/\(Jn c0 fun c l=>∃v8 G_,Own c G_ (F)/\l= [(5,v8)]/\Rel c u.2 G_/\RE 350 144 c v8 u.1) e w) ?_ ?_ ?_))))))))))))))
 ·clear H6 h5;intro a p2 a1 n1 H;revert a1 n1;rintro X w_ ⟨c9,d2,_,rfl,l9,rfl,v7,d0,y,rfl,M,s⟩;refine sr (va (B (decide (a.2.1<(j.length:Int)))) (wln (W.seq (cn H (fun b1 H=>?_) (fun b1 H=>?_)))))
  ·refine W.skip (nrm (bn H fun x b g0=>W.seqJ (Jn c9 fun c l=>∃v19 G_,Own c G_ (F)/\l= [(0,v1),(5,v19),(9,v3),(10,I (j.length:Int)),(11,I a.2.1)]/\Rel c x.2 G_/\RE 350 144 c v19 x.1) ?_ ?_))
   ·refine W.block (sr (va (I a.2.1) (bn b fun d P b=>?_)));obtain ⟨x1,c1,m1⟩:=Sl.at (Z.mono l9) (aU P);obtain ⟨v24,rfl,t⟩:=c1;refine vx (ix nK Z.m P) (vx (lN 38 m1) (me (al 38 [I 0,I 0,I 0,Y] y) ?_));rintro v29 b2 k1 ⟨u0,rfl,j0⟩;refine va (I a.2.1) ?_;obtain ⟨n,o,p,rfl⟩:=((t.mono k1)).form;refine md (sA 38 [I d.Kind,I d.A,I d.B,.slice n o p] 0 j0 ⟨rfl,rfl,rfl,t.m.one,trivial⟩) ?_;rintro c2 i2 z;refine wln (sr (va (v1) (vx (leN 38 0 [I d.Kind,I d.A,I d.B,.slice n o p] (z.on 0 rfl)) (bn b fun i d1 b=>cl (lL z M.m (hG.m.le (by decide)) p0 d h2.m t.m d1) ?_))));rintro v36 q j2 ⟨_,k,D,N,rfl,R⟩;refine va (v36) (wln (W.seq (bn b fun U S b=>W.join (Jn q fun c l=>Own c k ((Eb u0 38 [I d.Kind,I d.A,I d.B,.slice n o p])::F)/\l= [(0,v1),(5,v7),(6,I a.2.1),(8,v36),(9,v3),(10,I (j.length:Int)),(11,I a.2.1),(24,B U)]) ?_ ?_)))
    ·clear b;refine W.region (va (v36) (vr (B (!i.2.isNil)) (by rcases (R).cs with ⟨f,g⟩|⟨T,f,g⟩|⟨T,f,g⟩ <;> (subst f; rw [g]; kernel_rfl)) ?_));rcases bo (!i.2.isNil) with h|h
     ·have h0:=anT h S;refine vb h (wa (v7) (wn (vr (B a.1.isNil) (by rcases s.m.cs with ⟨f,g⟩|⟨T,f,g⟩|⟨T,f,g⟩ <;> (subst f; rw [g]; kernel_rfl)) ?_)));cases h0;exact va (B a.1.isNil) (wln (jn q ⟨D,rfl⟩))
     obtain rfl:=anF h S;exact vb h (pz (va (B false) (wln (jn q ⟨D,rfl⟩))))
    rintro X w_ ⟨v0,e2,_,rfl,k2,rfl,E,rfl⟩;refine nrm (cn b (fun f1 b=>?_) (fun f1 b=>?_))
    ·refine W.region (va (I a.2.1) (va (v36) (bn b fun z1 g1 b=>cl (zV E a.2.1 i.2 R.m g1) ?_)));rintro v55 w0 l2 ⟨_,k0,rfl,h1⟩;refine va (v55) (WL.nil (bkn (nrm ?_)));cases b;have l0:=k0.sD 1 [];exact jn w0 ⟨v55,k,l0,rfl,N.m,h1⟩
    refine W.skip (bkn (nrm ?_));cases b;have m0:=E.sD 1 [];exact jn v0 ⟨v7,k,m0,rfl,N.m,s.m⟩
   rintro X w_ ⟨x0,f2,_,rfl,m2,rfl,v19,e0,o0,rfl,s0,i1⟩;refine W.region (vv (I (w64 (a.2.1+1))) (WL.nil ?_));cases g0;exact ⟨_,rfl,jn x0 ⟨v19,e0,o0,rfl,s0,i1⟩⟩
  refine W.exit (thx ?_);cases H;exact ⟨_,rfl,rfl,jn c9 ⟨v7,d0,y,rfl,M,s⟩⟩
 ·exact jn c0 ⟨.nilIface,G,O0,rfl,R0,rfl⟩
 rintro _ X w_ ⟨rfl,y0,g2,_,rfl,n2,rfl,v8,f0,q0,rfl,t0,j1⟩;refine bke (nrm (sr (vv (v8) (wln (W.ret ?_)))));cases H6;exact r1 (qq y0 ⟨v8,f0,q0,t0,rfl,j1⟩)
def dP (sg:Sto) (p0:Option Nat):Option (dz):=
 if p0.isNone=true then
 some (⟨0,0,([]:List aj),(⟨0,0,false⟩:ai),false⟩:dz)
 else
 (p0).bind fun b=>
 (sg.screen_Screen[b]?).bind fun d=>
 (d.pen).bind fun c=>
 (sg.place_Pen[c]?).bind fun a=>
 (cr sg a.G).bind fun e=>
 (bQ sg a.G).bind fun f=>
 (jl sg a.G).bind fun g=>
 some (⟨e,f,g,a.At,a.Auto⟩:dz)
theorem kK (O0:Own c0 G F) (o:Rel c0 sg G) (U:Option Nat){r:dz}(h2:Pt 5 c0 v1 U) (H:dP sg U=some r): Calls prog 37 #[v1] c0.w (aR c0 fun c v=>∃X y2,Own c G (es true am X 48 y2 r.Lines::F)/\v= .agg #[I r.Wide,I r.High,X,I r.At.Row,I r.At.Col,B r.At.Pending,B r.Auto]/\OA am c X y2 r.Lines):=by
 unfold dP at H;refine en func37 rfl rfl (sr (me (al 45 [I 0,I 0,Y,I 0,I 0,B false,B false] O0) ?_));rintro v6 c5 T ⟨b3,rfl,y⟩;refine wln (W.seq (sr (va (v1) (vr (B U.isNone) (by rcases h2.m.cs with ⟨N,P⟩|⟨b_,N,P⟩ <;> (subst N; rw [P]; kernel_rfl)) (wln (cn H (fun h7 H=>?_) (fun h7 H=>?_)))))))
 ·refine sr (va (.agg #[I 0,I 0,Y,I 0,I 0,B false,B false]) (md (sA 45 [I 0,I 0,Y,I 0,I 0,B false,B false] 0 y ⟨rfl,rfl,rfl,rfl,rfl,rfl,rfl,trivial⟩) ?_));rintro S l9 O8;refine wln (W.ret (thr ?_));cases H;have g0:OA am S (Y) [] []:=OA.nil (aN _);have z:=O8.addHole (e:=es true am (Y) 48 [] ([]:List aj)) rfl;have Z:=z.sD 2 [0];exact kv (c:=S) (vs:=[I 0,I 0,Y,I 0,I 0,B false,B false]) rfl (by kernel_rfl) (by kernel_rfl) (by kernel_rfl) (z.on 1 rfl _ rfl).1 ⟨_,S,rfl,rfl,pt,(Y),[],Z,rfl,g0⟩
 refine W.skip (nrm (sr (va (v1) (bn H fun e1 i0 H=>?_))));obtain ⟨b,rfl,h0⟩:=((h2.mono T)).get i0;refine va (Q b) (va (Qo b 1) (bn H fun g1 j0 H=>?_));obtain ⟨v17,v19,q,i1,l0⟩:=Rel.open_screen_Screen (o.mono T) j0 h0;refine vx (le1 1 uX (y.gon q 0 rfl)) (bn H fun f1 o0 H=>?_);obtain ⟨d,rfl,m0⟩:=(l0).get o0;refine vv (Q d) (bn H fun a q0 H=>?_);obtain ⟨v26,t,s⟩:=Rel.open_place_Pen (o.mono T) q0 m0;refine vx (le1 0 fp (y.gon t 0 rfl)) (va (v26) (wln (W.seq (rD [] (Kp G []) y ?_))));intro b0 j1 A;have l:Kp G [] b0:=(Kp.nil A);refine ta 0 (v26) (ta 2 (v26) (ta 4 (v26) (ta 6 (Q b) (ta 7 (Q b) (ta 8 (Qo b 1) (tkx 9 l (fun R x f=>le1 1 uX (f.gon q 0 rfl)) (ta 10 (Q d) (ta 11 (Qo d 1) (tkx 12 l (fun R x f=>leN 29 1 [I a.At.Row,I a.At.Col,B a.At.Pending] (f.gon t 0 rfl)) (ta 13 (Q b) (ta 14 (Q b) (ta 15 (Qo b 1) (tkx 16 l (fun R x f=>le1 1 uX (f.gon q 0 rfl)) (ta 17 (Q d) (ta 18 (Qo d 4) (tkx 19 l (fun R x f=>le1 4 u_4 (f.gon t 0 rfl)) (bn H fun g s0 H=>o1 1 (gc 1 (cS A o.m a.G s.m s0) ?_))))))))))))))))));rintro v38 d0 k1 ⟨D,rfl⟩;have v0:Kp G [] d0:=(Kp.nil D);refine ⟨.inr v0,bn H fun h t0 H=>o1 3 (gc 3 (bM D o.m a.G s.m t0) ?_)⟩;rintro v46 e0 m1 ⟨E,rfl⟩;have w0:Kp G [] e0:=(Kp.nil E);refine ⟨.inr w0,bn H fun h1 u0 H=>o1 5 (gc 5 (uf E o.m a.G s.m u0) ?_)⟩;rintro v49 f0 n1 ⟨_,z0,M,rfl,u⟩;have x0:Kp G [] f0:=(Kp.nil M);refine ⟨.inr x0,?_⟩;obtain ⟨i,j,k,rfl⟩:=(u).form;refine ta 20 (.agg #[I g,I h,.slice i j k,I a.At.Row,I a.At.Col,B a.At.Pending,B a.Auto]) (o1 21 (gD 21 (sA 45 [I g,I h,.slice i j k,I a.At.Row,I a.At.Col,B a.At.Pending,B a.Auto] 1 M ⟨rfl,rfl,(u).one,rfl,rfl,rfl,rfl,trivial⟩) ?_));rintro p p1 n;have y0:Kp G [] p:=(Kp.nil n);refine ⟨.inr y0,dn (nrm (W.ret ?_))⟩;cases H;have a0:=n.sD 2 [0];exact kv (c:=p) (vs:=[I g,I h,.slice i j k,I a.At.Row,I a.At.Col,B a.At.Pending,B a.Auto]) rfl (by kernel_rfl) (by kernel_rfl) (by kernel_rfl) (n.on 1 rfl _ rfl).1 ⟨_,p,rfl,rfl,pt,(.slice i j k),z0,a0,rfl,u.m⟩
def gN (p0:Int) (p1:Int):Option (aq):=
 (gP (aE 1 (aB p0 1024)) (aE 1 (aB p1 1024))).bind fun a=>
 some (⟨a,([]:List Int),([]:List Int),0⟩:aq)
theorem sj (A:Own c0 G F) (g:Int) (h:Int){r:aq}(H:gN g h=some r): Calls prog 14 #[I g,I h] c0.w (aR c0 fun c v=>∃k x l y n z,Own c G (es true am k 48 x r.P.L::es true (RI .i32) l 21 y r.Group::es true (RI .u8) n 5 z r.Raw::F)/\v= .agg #[k,I r.P.At.Row,I r.P.At.Col,B r.P.At.Pending,B r.P.Auto,l,n,I r.Parts]/\OA am c k x r.P.L/\OA (RI .i32) c l y r.Group/\OA (RI .u8) c n z r.Raw):=by
 unfold gN at H;refine en func14 rfl rfl (sr (me (al 35 [Y,I 0,I 0,B false,B false,Y,Y,I 0] A) ?_));rintro v4 U X ⟨T,rfl,D⟩;refine wln (sr (va (I g) (va (I (aB g 1024)) (va (I (aE 1 (aB g 1024))) (va (I h) (va (I (aB h 1024)) (va (I (aE 1 (aB h 1024))) (bn H fun a E H=>cl (sm D (aE 1 (aB g 1024)) (aE 1 (aB h 1024)) E) ?_))))))));rintro v14 N R ⟨v6,M,o,rfl,j⟩;obtain ⟨b,a16,d,rfl⟩:=(j).form;refine va (.agg #[.slice b a16 d,I a.At.Row,I a.At.Col,B a.At.Pending,B a.Auto,Y,Y,I 0]) (md (sA 35 [.slice b a16 d,I a.At.Row,I a.At.Col,B a.At.Pending,B a.Auto,Y,Y,I 0] 1 o ⟨(j).one,rfl,rfl,rfl,rfl,rfl,rfl,rfl,trivial⟩) ?_);rintro f S p;refine wln (W.ret ?_);cases H;have t:OA (RI .i32) f (Y) [] []:=OA.nil (aN _);have q:=p.addHole (e:=es true (RI .i32) (Y) 21 [] ([]:List Int)) rfl;have u:OA (RI .u8) f (Y) [] []:=OA.nil (aN _);have i:=q.addHole (e:=es true (RI .u8) (Y) 5 [] ([]:List Int)) rfl;have s:=i.sD 4 [2,1,0];exact kv (c:=f) (vs:=[.slice b a16 d,I a.At.Row,I a.At.Col,B a.At.Pending,B a.Auto,Y,Y,I 0]) rfl (by kernel_rfl) (by kernel_rfl) (by kernel_rfl) (i.on 3 rfl _ rfl).1 ⟨_,f,rfl,rfl,pt,(.slice b a16 d),M,(Y),[],(Y),[],s,rfl,j.m,t,u⟩
def fW (p0:aq) (p1:aM):Option (aq×Int):=
 if (p1.Kind==0)=true then
 (dR p0 p1.Bytes).bind fun f=>
 some (f,0)
 else
 if (p1.Kind==1)=true then
 (dQ p0).bind fun g=>
 some (g,0)
 else
 if (p1.Kind==13)=true then
 (cX p0).bind fun c=>
 (dx c.P p1.A p1.B).bind fun h=>
 some ((⟨h,c.Group,c.Raw,c.Parts⟩:aq),0)
 else
 (eA p1).bind fun e=>
 (if (e==0)=true then
 (cX p0).bind fun d=>
 (fX d.P p1).bind fun b=>
 some (b.L,b.At.Row,b.At.Col,b.At.Pending,b.Auto,d.Group,d.Raw,d.Parts)
 else
 some (p0.P.L,p0.P.At.Row,p0.P.At.Col,p0.P.At.Pending,p0.P.Auto,p0.Group,p0.Raw,p0.Parts)).bind fun a=>
 some ((⟨(⟨a.1,(⟨a.2.1,a.2.2.1,a.2.2.2.1⟩:ai),a.2.2.2.2.1⟩:aa),a.2.2.2.2.2.1,a.2.2.2.2.2.2.1,a.2.2.2.2.2.2.2⟩:aq),e)
theorem nX (O0:Own c0 G F) (d:aq) (j:aM){r:aq×Int}(h2:Sl am c0 v1 d.P.L) (h4:Sl (RI .i32) c0 v3 d.Group) (h6:Sl (RI .u8) c0 v5 d.Raw) (h8:Sl (RI .u8) c0 v7 j.Bytes) (H:fW d j=some r): Calls prog 46 #[.agg #[v1,I d.P.At.Row,I d.P.At.Col,B d.P.At.Pending,B d.P.Auto,v3,v5,I d.Parts],.agg #[I j.Kind,I j.A,I j.B,v7]] c0.w (aR c0 fun c v=>∃y1 y2 y3,Own c G (F)/\v= .tuple #[.agg #[y1,I r.1.P.At.Row,I r.1.P.At.Col,B r.1.P.At.Pending,B r.1.P.Auto,y2,y3,I r.1.Parts],I r.2]/\Sl am c y1 r.1.P.L/\Sl (RI .i32) c y2 r.1.Group/\Sl (RI .u8) c y3 r.1.Raw):=by
 unfold fW at H;refine en func46 rfl rfl (sr ?_);obtain ⟨a9,E,M,rfl⟩:=(h2).form;obtain ⟨N,R,S,rfl⟩:=(h4).form;obtain ⟨T,a16,U,rfl⟩:=(h6).form;refine me (al 35 [.slice a9 E M,I d.P.At.Row,I d.P.At.Col,B d.P.At.Pending,B d.P.Auto,.slice N R S,.slice T a16 U,I d.Parts] O0) ?_;rintro v21 i7 w5 ⟨X,rfl,d5⟩;obtain ⟨k5,l5,m5,rfl⟩:=((h8.mono w5)).form;refine me (bx 38 [I j.Kind,I j.A,I j.B,.slice k5 l5 m5] d5) ?_;rintro v29 j7 o7 ⟨i1,rfl,e5,Z⟩;refine me (al 35 [Y,I 0,I 0,B false,B false,Y,Y,I 0] e5) ?_;rintro v33 k7 p7 ⟨t3,rfl,D⟩;refine va (I 0) (wln (W.seq (sr (va (Q i1) (vx (l1 u_3 ((mm Z) 0 _ rfl)) (wln (W.block (sr (vv (B (j.Kind==0)) (wln (cn H (fun n5 H=>?_) (fun n5 H=>?_))))))))))))
 ·refine sr (vx (leN 35 0 [.slice a9 E M,I d.P.At.Row,I d.P.At.Col,B d.P.At.Pending,B d.P.Auto,.slice N R S,.slice T a16 U,I d.Parts] (D.on 1 rfl)) (va (Qo i1 (0+3)) (vx (l1 lW ((mm Z) 3 _ rfl)) (bn H fun g o5 H=>cl (nZ D d j.Bytes h2.m h4.m h6.m h8.m o5) ?_))));rintro v47 l7 q7 ⟨v36,v38,v40,f5,rfl,g3,h3,i3⟩;obtain ⟨j2,k2,l2,rfl⟩:=(g3).form;obtain ⟨m2,n2,o2,rfl⟩:=(h3).form;obtain ⟨p2,q2,s2,rfl⟩:=(i3).form;refine md (sA 35 [.slice j2 k2 l2,I g.P.At.Row,I g.P.At.Col,B g.P.At.Pending,B g.P.Auto,.slice m2 n2 o2,.slice p2 q2 s2,I g.Parts] 0 f5 ⟨g3.one,rfl,rfl,rfl,rfl,h3.one,i3.one,rfl,trivial⟩) ?_;rintro u3 r7 q3;refine va (I 0) (wln (W.ret (bkr (thr ?_))));cases H;have g5:=q3.sD 2 [];exact qV (c:=u3) (vs:=[.slice j2 k2 l2,I g.P.At.Row,I g.P.At.Col,B g.P.At.Pending,B g.P.Auto,.slice m2 n2 o2,.slice p2 q2 s2,I g.Parts]) (v:=I 0) rfl (by kernel_rfl) (by kernel_rfl) (by kernel_rfl) (by kernel_rfl) (q3.on 0 rfl _ rfl).1 ⟨_,u3,rfl,rfl,pt,(.slice j2 k2 l2),(.slice m2 n2 o2),(.slice p2 q2 s2),g5,rfl,g3.m,h3.m,i3.m⟩
 refine sr (vv (B (j.Kind==1)) (wln (cn H (fun p5 H=>?_) (fun p5 H=>?_))))
 ·refine sr (vx (leN 35 0 [.slice a9 E M,I d.P.At.Row,I d.P.At.Col,B d.P.At.Pending,B d.P.Auto,.slice N R S,.slice T a16 U,I d.Parts] (D.on 1 rfl)) (bn H fun h q5 H=>cl (nY D d h2.m h4.m h6.m q5) ?_));rintro a8 m7 s7 ⟨x7,y7,u7,z7,h5,rfl,j3,k3,l3⟩;obtain ⟨t2,u2,v2,rfl⟩:=(j3).form;obtain ⟨w2,x2,z2,rfl⟩:=(k3).form;obtain ⟨a3,b3,c3,rfl⟩:=(l3).form;refine md (sA 35 [.slice t2 u2 v2,I h.P.At.Row,I h.P.At.Col,B h.P.At.Pending,B h.P.Auto,.slice w2 x2 z2,.slice a3 b3 c3,I h.Parts] 1 h5 ⟨j3.one,rfl,rfl,rfl,rfl,(k3).one,l3.one,rfl,trivial⟩) ?_;rintro n7 x5 i5;refine va (I 0) (wln (W.ret (bkr (thr ?_))));cases H;obtain ⟨w3,s5,t7,s3,r5⟩:=i5.frz 0 rfl (k3.mono x5);have j5:=s3.sD 3 [];exact A1 s5 (qV (c:=w3) (vs:=[.slice t2 u2 v2,I h.P.At.Row,I h.P.At.Col,B h.P.At.Pending,B h.P.Auto,.slice w2 x2 z2,.slice a3 b3 c3,I h.Parts]) (v:=I 0) rfl (by kernel_rfl) (by kernel_rfl) (by kernel_rfl) (by kernel_rfl) (s3.on 1 rfl _ rfl).1 ⟨_,w3,rfl,rfl,pt,(.slice t2 u2 v2),(.slice w2 x2 z2),(.slice a3 b3 c3),j5,rfl,j3.m,r5,l3.m⟩)
 refine sr (vv (B (j.Kind==13)) (wln (cn H (fun t5 H=>?_) (fun t5 H=>?_))))
 ·refine sr (vx (leN 35 0 [.slice a9 E M,I d.P.At.Row,I d.P.At.Col,B d.P.At.Pending,B d.P.Auto,.slice N R S,.slice T a16 U,I d.Parts] (D.on 1 rfl)) (bn H fun e u5 H=>cl (iE D d h2.m h4.m h6.m u5) ?_));rintro y6 c6 p6 ⟨b8,c8,w7,d8,z3,rfl,m3,j1,k1⟩;obtain ⟨c2,d2,e2,rfl⟩:=(m3).form;obtain ⟨o,p,q,rfl⟩:=(j1).form;obtain ⟨s,t,u,rfl⟩:=(k1).form;refine md (sA 35 [.slice c2 d2 e2,I e.P.At.Row,I e.P.At.Col,B e.P.At.Pending,B e.P.Auto,.slice o p q,.slice s t u,I e.Parts] 2 z3 ⟨m3.one,rfl,rfl,rfl,rfl,(j1).one,k1.one,rfl,trivial⟩) ?_;rintro d6 x4 t1;refine wln (sr (va (Q X) (vx (leN 31 0 [.slice c2 d2 e2,I e.P.At.Row,I e.P.At.Col,B e.P.At.Pending,B e.P.Auto] (t1.on 2 rfl)) (va (Qo i1 (0+1)) (vx (l1 u_3 ((mm Z) 1 _ rfl)) (va (Qo i1 (0+2)) (vx (l1 u_3 ((mm Z) 2 _ rfl)) (bn H fun b m4 H=>cl (pX t1 e.P j.A j.B m3.m m4) ?_))))))));rintro a7 e6 y4 ⟨z6,w6,a4,rfl,a0⟩;refine va (Q X) ?_;obtain ⟨x,y,z,rfl⟩:=(a0).form;refine md (sB 31 0 [.slice x y z,I b.At.Row,I b.At.Col,B b.At.Pending,B b.Auto] [.slice x y z,I b.At.Row,I b.At.Col,B b.At.Pending,B b.Auto,.slice o p q,.slice s t u,I e.Parts] 3 a4 ⟨(a0).one,rfl,rfl,rfl,rfl,trivial⟩) ?_;rintro f6 n3 u1;refine wln (sr (vx (leN 35 0 [.slice x y z,I b.At.Row,I b.At.Col,B b.At.Pending,B b.Auto,.slice o p q,.slice s t u,I e.Parts] (u1.on 3 rfl)) (md (sA 35 [.slice x y z,I b.At.Row,I b.At.Col,B b.At.Pending,B b.Auto,.slice o p q,.slice s t u,I e.Parts] 2 u1 ⟨a0.m.one,rfl,rfl,rfl,rfl,j1.m.one,k1.m.one,rfl,trivial⟩) ?_)));rintro g6 o3 b4;refine va (I 0) (wln (W.ret (bkr (thr ?_))));cases H;obtain ⟨i6,o4,z4,c4,n4⟩:=b4.frz 0 rfl (a0.mono (n3.trans o3));obtain ⟨d3,q4,q6,w1,p4⟩:=c4.frz 1 rfl (j1.mono (x4.trans (y4.trans (n3.trans (o3.trans z4)))));have d4:=w1.sD 4 [];exact A1 o4 (A1 q4 (qV (c:=d3) (vs:=[.slice x y z,I b.At.Row,I b.At.Col,B b.At.Pending,B b.Auto,.slice o p q,.slice s t u,I e.Parts]) (v:=I 0) rfl (by kernel_rfl) (by kernel_rfl) (by kernel_rfl) (by kernel_rfl) (w1.on 2 rfl _ rfl).1 ⟨_,d3,rfl,rfl,pt,(.slice x y z),(.slice o p q),(.slice s t u),d4,rfl,n4.m,p4,k1.m⟩))
 refine W.skip (bkn (nrm (sr (vx (lN 38 (mm Z)) (bn H fun n r4 H=>cl (mG D j h8.m r4) ?_)))));rintro b7 e3 r6 ⟨f0,rfl⟩;refine va (I n) (wln (bn H fun a i x3=>W.seqJ (Jn e3 fun c l=>∃b0 d0 e0,Own c G ((Eb t3 35 [Y,I 0,I 0,B false,B false,Y,Y,I 0])::(Eb X 35 [b0,I a.2.1,I a.2.2.1,B a.2.2.2.1,B a.2.2.2.2.1,d0,e0,I a.2.2.2.2.2.2.2])::F)/\l= [(2,Q X),(4,Q t3),(6,I n)]/\Sl am c b0 a.1/\Sl (RI .i32) c d0 a.2.2.2.2.2.1/\Sl (RI .u8) c e0 a.2.2.2.2.2.2.1) ?_ ?_))
 ·refine sr (va (I n) (va (B (n==0)) (wln (cn i (fun s4 i=>?_) (fun s4 i=>?_)))))
  ·refine sr (vx (leN 35 0 [.slice a9 E M,I d.P.At.Row,I d.P.At.Col,B d.P.At.Pending,B d.P.Auto,.slice N R S,.slice T a16 U,I d.Parts] (f0.on 1 rfl)) (bn i fun f t4 i=>cl (iE f0 d h2.m h4.m h6.m t4) ?_));rintro f7 j6 s6 ⟨c7,d7,x6,e7,e4,rfl,b1,c1,d1⟩;obtain ⟨f2,g2,i2,rfl⟩:=(b1).form;obtain ⟨g0,h0,i0,rfl⟩:=(c1).form;obtain ⟨j0,k0,l0,rfl⟩:=(d1).form;refine md (sA 35 [.slice f2 g2 i2,I f.P.At.Row,I f.P.At.Col,B f.P.At.Pending,B f.P.Auto,.slice g0 h0 i0,.slice j0 k0 l0,I f.Parts] 2 e4 ⟨b1.one,rfl,rfl,rfl,rfl,(c1).one,d1.one,rfl,trivial⟩) ?_;rintro k6 a5 x1;refine wln (W.region (va (Q X) (vx (leN 31 0 [.slice f2 g2 i2,I f.P.At.Row,I f.P.At.Col,B f.P.At.Pending,B f.P.Auto] (x1.on 2 rfl)) (vx (lN 38 (mm Z)) (bn i fun k u4 i=>cl (sY x1 f.P j b1.m h8.m u4) ?_)))));rintro h7 l6 b5 ⟨g7,f4,rfl,e1⟩;refine va (Q X) ?_;obtain ⟨m0,o0,q0,rfl⟩:=(e1).form;refine md (sB 31 0 [.slice m0 o0 q0,I k.At.Row,I k.At.Col,B k.At.Pending,B k.Auto] [.slice m0 o0 q0,I k.At.Row,I k.At.Col,B k.At.Pending,B k.Auto,.slice g0 h0 i0,.slice j0 k0 l0,I f.Parts] 2 f4 ⟨e1.one,rfl,rfl,rfl,rfl,trivial⟩) ?_;rintro m6 c5 g4;refine wln ?_;cases i;obtain ⟨l4,w4,t6,i4,v4⟩:=g4.frz 0 rfl (c1.mono (a5.trans (b5.trans c5)));have j4:=i4.sD 3 [1,2];exact ⟨l4,_,_,w4.symm,pt,us,(.slice m0 o0 q0),(.slice g0 h0 i0),(.slice j0 k0 l0),j4,rfl,e1.m,v4,d1.m⟩
  refine W.skip (nrm ?_);cases i;exact jn e3 ⟨(.slice a9 E M),(.slice N R S),(.slice T a16 U),f0,rfl,h2.m,h4.m,h6.m⟩
 rintro e_ w_ ⟨n6,o6,_,rfl,u6,rfl,b0,d0,e0,z1,rfl,f1,g1,h1⟩;refine sr (vx (leN 35 0 [b0,I a.2.1,I a.2.2.1,B a.2.2.2.1,B a.2.2.2.2.1,d0,e0,I a.2.2.2.2.2.2.2] (z1.on 1 rfl)) (va (I n) ?_));obtain ⟨s0,t0,u0,rfl⟩:=(f1).form;obtain ⟨v0,w0,x0,rfl⟩:=(g1).form;obtain ⟨y0,z0,a1,rfl⟩:=(h1).form;refine md (sA 35 [.slice s0 t0 u0,I a.2.1,I a.2.2.1,B a.2.2.2.1,B a.2.2.2.2.1,.slice v0 w0 x0,.slice y0 z0 a1,I a.2.2.2.2.2.2.2] 0 z1 ⟨f1.one,rfl,rfl,rfl,rfl,g1.one,h1.one,rfl,trivial⟩) ?_;rintro f3 v6 b2;refine va (I n) (wln (W.ret ?_));cases x3;have k4:=b2.sD 2 [];exact qV (c:=f3) (vs:=[.slice s0 t0 u0,I a.2.1,I a.2.2.1,B a.2.2.2.1,B a.2.2.2.2.1,.slice v0 w0 x0,.slice y0 z0 a1,I a.2.2.2.2.2.2.2]) (v:=I n) rfl (by kernel_rfl) (by kernel_rfl) (by kernel_rfl) (by kernel_rfl) (b2.on 0 rfl _ rfl).1 ⟨_,f3,rfl,rfl,pt,(.slice s0 t0 u0),(.slice v0 w0 x0),(.slice y0 z0 a1),k4,rfl,f1.m,g1.m,h1.m⟩
def eY (p0:aa):Option (dz):=
 (cP p0).bind fun a=>
 some (⟨a,(p0.L.length:Int),p0.L,p0.At,p0.Auto⟩:dz)
theorem nu (M:Own c0 G F) (a:aa){r:dz}(j:Sl am c0 v1 a.L) (H:eY a=some r): Calls prog 35 #[.agg #[v1,I a.At.Row,I a.At.Col,B a.At.Pending,B a.Auto]] c0.w (aR c0 fun c v=>∃E,Own c G (F)/\v= .agg #[I r.Wide,I r.High,E,I r.At.Row,I r.At.Col,B r.At.Pending,B r.Auto]/\Sl am c E r.Lines):=by
 unfold eY at H;refine en func35 rfl rfl (sr ?_);obtain ⟨e,f,g,rfl⟩:=(j).form;refine me (bx 31 [.slice e f g,I a.At.Row,I a.At.Col,B a.At.Pending,B a.Auto] M) ?_;rintro v10 c9 l9 ⟨o,rfl,N,n⟩;refine me (al 45 [I 0,I 0,Y,I 0,I 0,B false,B false] N) ?_;rintro v14 R S ⟨P,rfl,q⟩;refine wln (W.seq (rD [] (Kp G0 []) q ?_));intro x T s;have Z:Kp G0 [] x:=Kp.nil0;refine tx 0 (fun h b=>lN 31 (mm n)) (ta 2 (Q o) (tx 3 (fun h b=>l1 fm ((mm n) 0 _ rfl)) (tx 4 (fun h b=>ln 3 fm j.m) (ta 5 (Q o) (tx 6 (fun h b=>l1 fm ((mm n) 0 _ rfl)) (ta 7 (Qo o (0+1)) (tx 8 (fun h b=>lN 29 (Bs (k:=1) (l:=[I a.At.Row,I a.At.Col,B a.At.Pending]) (mm n) rfl)) (ta 9 (Qo o (0+4)) (tx 10 (fun h b=>l1 u_4 ((mm n) 4 _ rfl)) (bn H fun d z H=>o1 1 (gc 1 (gx s a j.m z) ?_)))))))))));rintro v24 y U ⟨t,rfl⟩;have A:Kp G0 [] y:=Kp.nil0;refine ⟨.inr A,ta 11 (.agg #[I d,I (a.L.length:Int),.slice e f g,I a.At.Row,I a.At.Col,B a.At.Pending,B a.Auto]) (o1 12 (gD 12 (sA 45 [I d,I (a.L.length:Int),.slice e f g,I a.At.Row,I a.At.Col,B a.At.Pending,B a.Auto] 0 t ⟨rfl,rfl,j.m.one,rfl,rfl,rfl,rfl,trivial⟩) ?_))⟩;rintro i X p;have D:Kp G0 [] i:=Kp.nil0;refine ⟨.inr D,dn (nrm (W.ret ?_))⟩;cases H;have u:=p.sD 1 [];exact kv (c:=i) (vs:=[I d,I (a.L.length:Int),.slice e f g,I a.At.Row,I a.At.Col,B a.At.Pending,B a.Auto]) rfl (by kernel_rfl) (by kernel_rfl) (by kernel_rfl) (p.on 0 rfl _ rfl).1 ⟨_,i,rfl,rfl,pt,(.slice e f g),u,rfl,j.m⟩
def eZ (p0:dz) (p1:dz):Option (Bool):=
 (bT (p0.Wide==p1.Wide) (some (p0.High==p1.High))).bind fun a=>
 (bT a (some (p0.At.Row==p1.At.Row && (p0.At.Col==p1.At.Col && (p0.At.Pending==p1.At.Pending && true))))).bind fun b=>
 (bT b (some (p0.Auto==p1.Auto))).bind fun c=>
 (bT c ((fa p0.Lines p1.Lines).bind fun e=>
 some e)).bind fun d=>
 some d
theorem nv (O0:Own c0 G F) (a:dz) (b:dz){r:Bool}(h2:Sl am c0 v1 a.Lines) (h4:Sl am c0 v3 b.Lines) (H:eZ a b=some r): Calls prog 34 #[.agg #[I a.Wide,I a.High,v1,I a.At.Row,I a.At.Col,B a.At.Pending,B a.Auto],.agg #[I b.Wide,I b.High,v3,I b.At.Row,I b.At.Col,B b.At.Pending,B b.Auto]] c0.w (aR c0 fun c v=>Own c G (F)/\v=B r):=by
 unfold eZ at H;refine en func34 rfl rfl (sr ?_);obtain ⟨a5,a6,a7,rfl⟩:=(h2).form;refine me (bx 45 [I a.Wide,I a.High,.slice a5 a6 a7,I a.At.Row,I a.At.Col,B a.At.Pending,B a.Auto] O0) ?_;rintro v12 v0 j0 ⟨t,rfl,O9,o⟩;obtain ⟨a0,b0,d0,rfl⟩:=((h4.mono j0)).form;refine me (bx 45 [I b.Wide,I b.High,.slice a0 b0 d0,I b.At.Row,I b.At.Col,B b.At.Pending,B b.Auto] O9) ?_;rintro v20 f x0 ⟨e,rfl,d,p⟩;refine va (B false) (wln (W.seq (bn H fun s0 y H=>bn H fun t0 u H=>bn H fun u0 q H=>bn H fun P g H=>W.join (Jn f fun c l=>Own c G (F)/\l= [(4,B P)]) ?_ ?_)))
 ·clear H;refine W.region (va (Q t) (vx (l1 u_3 ((mm o) 0 _ rfl)) (va (Q e) (vx (l1 u_3 (p 0 _ rfl)) (va (B (a.Wide==b.Wide)) ?_)))));rcases bo (a.Wide==b.Wide) with h|h
  ·have R:=anT h y;refine vb h (wa (Qo t (0+1)) (wn (vx (l1 u_3 ((mm o) 1 _ rfl)) (wa (Qo e (0+1)) (wn (vx (l1 u_3 (p 1 _ rfl)) (wa (B (a.High==b.High)) ?_)))))));cases R;refine va (B (a.High==b.High)) ?_;rcases bo (a.High==b.High) with i|i
   ·have S:=anT i u;refine vb i (wa (Qo t (0+3)) (wn (vx (lN 29 (Bs (k:=3) (l:=[I a.At.Row,I a.At.Col,B a.At.Pending]) (mm o) rfl)) (wa (Qo e (0+3)) (wn (vx (lN 29 (Bs (k:=3) (l:=[I b.At.Row,I b.At.Col,B b.At.Pending]) p rfl)) (wn (vr (B (a.At.Row==b.At.Row && (a.At.Col==b.At.Col && (a.At.Pending==b.At.Pending && true)))) (yZ (T:=29) (xs:= #[I a.At.Row,I a.At.Col,B a.At.Pending]) (ys:= #[I b.At.Row,I b.At.Col,B b.At.Pending]) (r:=(a.At.Row==b.At.Row && (a.At.Col==b.At.Col && (a.At.Pending==b.At.Pending && true)))) underlying29 (by kernel_rfl) (by kernel_rfl) (EqP.int (by kernel_rfl) u_3 rfl rfl (EqP.int (by kernel_rfl) u_3 rfl rfl (EqP.bool (by kernel_rfl) u_4 rfl rfl EqP.nil))) (by kernel_rfl) _) ?_))))))));cases S;refine va (B (a.At.Row==b.At.Row && (a.At.Col==b.At.Col && (a.At.Pending==b.At.Pending && true)))) ?_;rcases bo ((a.At.Row==b.At.Row && (a.At.Col==b.At.Col && (a.At.Pending==b.At.Pending && true)))) with j|j
    ·have U:=anT j q;refine vb j (wa (Qo t (0+6)) (wn (vx (l1 u_4 ((mm o) 6 _ rfl)) (wa (Qo e (0+6)) (wn (vx (l1 u_4 (p 6 _ rfl)) (wa (B (a.Auto==b.Auto)) ?_)))))));cases U;refine va (B (a.Auto==b.Auto)) ?_;rcases bo (a.Auto==b.Auto) with n|n
     ·have s:=anT n g;refine vb n (wa (Qo t (0+2)) (wn (vx (l1 fm ((mm o) 2 _ rfl)) (wa (Qo e (0+2)) (wn (vx (l1 fm (p 2 _ rfl)) (wn (bn s fun x h0 s=>cl (rA d a.Lines b.Lines h2.m h4.m h0) ?_))))))));rintro v39 e0 y0 ⟨X,rfl⟩;obtain rfl:=si s;exact vv (B x) (wln (jn e0 ⟨X,rfl⟩))
     obtain rfl:=anF n g;exact vb n (pz (pz (ps (vv (B false) (wln (jn f ⟨d,rfl⟩))))))
    obtain rfl:=anF j q;refine vb j (pz (pz (ps (va (B false) ?_))));have z:false=false:=rfl;obtain rfl:=anF z g;exact vb z (pz (pz (ps (vv (B false) (wln (jn f ⟨d,rfl⟩))))))
   obtain rfl:=anF i u;refine vb i (pz (pz (ps (va (B false) ?_))));have A:false=false:=rfl;obtain rfl:=anF A q;refine vb A (pz (pz (ps (va (B false) ?_))));have D:false=false:=rfl;obtain rfl:=anF D g;exact vb D (pz (pz (ps (vv (B false) (wln (jn f ⟨d,rfl⟩))))))
  obtain rfl:=anF h y;refine vb h (pz (pz (ps (va (B false) ?_))));have E:false=false:=rfl;obtain rfl:=anF E u;refine vb E (pz (pz (ps (va (B false) ?_))));have M:false=false:=rfl;obtain rfl:=anF M q;refine vb M (pz (pz (ps (va (B false) ?_))));have N:false=false:=rfl;obtain rfl:=anF N g;exact vb N (pz (pz (ps (vv (B false) (wln (jn f ⟨d,rfl⟩))))))
 rintro e_ w_ ⟨f0,w0,_,rfl,z0,rfl,Z,rfl⟩;refine nrm (W.ret ?_);cases H;exact r1 (qq f0 ⟨Z,rfl⟩)
def fQ (p0:List aM):Option (Bool):=
 (cL (σ:=Int×Int) (τ:=Bool ⊕ Unit) (((p0.length:Int)-0).toNat+1) (fun a=>
 (bT (decide (a.2<(p0.length:Int))) (some (decide (a.2<60)))).bind fun d=>
 if d=true then
 (idx p0 a.2).bind fun c=>
 (orE (decide ((w64 (a.1+(c.Bytes.length:Int)))>600)) ((idx p0 a.2).bind fun h=>
 (bT (h.Kind==13) ((idx p0 a.2).bind fun i=>
 some (decide (i.A>60)))).bind fun f=>
 (bT f ((idx p0 a.2).bind fun j=>
 some (decide (j.B>60)))).bind fun g=>
 some g)).bind fun e=>
 if e=true then
 some (.inr (.inl true))
 else
 some (.inl ((w64 (a.1+(c.Bytes.length:Int))),(w64 (a.2+1))))
 else
 some (.inr (.inr ()))) (0,0)).bind fun b=>
 match b with
 | .inl b=>
 some b
 | .inr b=>
 some (decide ((p0.length:Int)>50))
theorem qK (O0:Own c0 G F) (s:List aM){r:Bool}(f:Sl jK c0 v1 s) (H:fQ s=some r): Calls prog 12 #[v1] c0.w (aR c0 fun c v=>Own c G (F)/\v=B r):=by
 unfold fQ at H;refine en func12 rfl rfl (sr (va (B false) (wln (sr (va (I 0) (wln (W.seq (sr (va (I 0) (wln (W.block (bn H fun y h3 H4=>lp h3 (fun a=>Jn c0 fun c l=>Own c G (F)/\l= [(0,v1),(3,I a.1),(4,I a.2)]) (fun t=>match t with|.inl x_=>(fun i1 ex e w=>ex= .ret/\(Jn c0 fun c l=>Own c G (F)/\l= [(2,B i1)]) e w) x_|.inr x_=>(fun t1 ex e w=>ex= .exit 0/\(Jn c0 fun c l=>Own c G (F)/\l= [(0,v1)]) e w) x_) ?_ ?_ ?_))))))))))))
 ·clear H4 h3;intro a g2 t0 j1 H;revert t0 j1;rintro D M ⟨c5,g6,_,rfl,E,rfl,O7,rfl⟩;refine W.seq (W.seq (bn H fun g0 R H=>W.join (Jn c5 fun c l=>Own c G (F)/\l= [(0,v1),(3,I a.1),(4,I a.2),(12,B g0)]) ?_ ?_))
  ·clear H;refine W.region (va (I a.2) (va (v1) (vx (ln 3 nK f.m) (va (B (decide (a.2<(s.length:Int)))) ?_))));rcases bo (decide (a.2<(s.length:Int))) with i|i
   ·have k0:=anT i R;refine vb i (wa (I a.2) (wa (B (decide (a.2<60))) ?_));cases k0;exact va (B (decide (a.2<60))) (wln (jn c5 ⟨O7,rfl⟩))
   obtain rfl:=anF i R;exact vb i (pz (va (B false) (wln (jn c5 ⟨O7,rfl⟩))))
  rintro D M ⟨g,u1,_,rfl,q,rfl,h,rfl⟩;refine nrm (cn H (fun v0 H=>?_) (fun v0 H=>?_))
  ·refine W.skip (nrm (W.seq (W.block (sr (va (I a.1) (va (v1) (va (I a.2) (bn H fun d S H=>?_))))))));obtain ⟨n1,w0,e1⟩:=Sl.at (f.mono (E.trans q)) (aU S);obtain ⟨v25,rfl,x0⟩:=w0;refine vx (ix nK f.m S) (va (Qo (sb v1) (so v1+a.2.toNat*4+3)) (vx (l1 lW (e1 3 _ rfl)) (vx (ln 3 lW x0) (vv (I (w64 (a.1+(d.Bytes.length:Int)))) (wln (W.seq (bn H fun h0 T H=>W.join (Jn g fun c l=>Own c G (F)/\l= [(0,v1),(3,I (w64 (a.1+(d.Bytes.length:Int)))),(4,I a.2),(48,B h0)]) ?_ ?_)))))))
   ·clear H;refine W.region (va (I (w64 (a.1+(d.Bytes.length:Int)))) (va (B (decide ((w64 (a.1+(d.Bytes.length:Int)))>600))) ?_));rcases bo (decide ((w64 (a.1+(d.Bytes.length:Int)))>600)) with j|j
    ·obtain rfl:=orT j T;exact vb j (pz (pz (pz (pz (pz (pz (pz (pz (pz (pz (pz (va (B true) (wln (jn g ⟨h,rfl⟩))))))))))))))
    have b:=orF j T;refine vb j (wa (v1) (wa (I a.2) (wn (bn b fun z U b=>?_))));obtain ⟨p1,z0,f1⟩:=Sl.at (f.mono (E.trans q)) (aU U);obtain ⟨v34,rfl,z1⟩:=z0;refine vx (ix nK f.m U) (wa (Qo (sb v1) (so v1+a.2.toNat*4)) (wn (vx (l1 u_3 (f1 0 _ rfl)) (wa (B (z.Kind==13)) (wn (bn b fun m1 X b=>?_))))));rcases bo (z.Kind==13) with k|k
    ·have u:=anT k X;refine vb k (wa (v1) (wa (I a.2) (wn (bn u fun o Z u=>?_))));obtain ⟨q1,a1,g1⟩:=Sl.at (f.mono (E.trans q)) (aU Z);obtain ⟨v43,rfl,b2⟩:=a1;refine vx (ix nK f.m Z) (wa (Qo (sb v1) (so v1+a.2.toNat*4+1)) (wn (vx (l1 u_3 (g1 1 _ rfl)) (wa (B (decide (o.A>60))) (wn ?_)))));cases u;refine va (B (decide (o.A>60))) (wn (bn b fun i0 a0 b=>?_));rcases bo (decide (o.A>60)) with n|n
     ·have x:=anT n a0;refine vb n (wa (v1) (wa (I a.2) (wn (bn x fun p b0 x=>?_))));obtain ⟨s1,b1,h1⟩:=Sl.at (f.mono (E.trans q)) (aU b0);obtain ⟨v52,rfl,c2⟩:=b1;refine vx (ix nK f.m b0) (wa (Qo (sb v1) (so v1+a.2.toNat*4+2)) (wn (vx (l1 u_3 (h1 2 _ rfl)) (wa (B (decide (p.B>60))) (wn ?_)))));cases x;refine va (B (decide (p.B>60))) ?_;cases b;exact va (B (decide (p.B>60))) (wln (jn g ⟨h,rfl⟩))
     obtain rfl:=anF n a0;refine vb n (pz (pz (pz (wa (B false) ?_))));cases b;exact va (B false) (wln (jn g ⟨h,rfl⟩))
    obtain rfl:=anF k X;refine vb k (pz (pz (pz (wa (B false) (wn (bn b fun i0 c1 b=>?_))))));have d0:false=false:=rfl;obtain rfl:=anF d0 c1;refine vb d0 (pz (pz (pz (wa (B false) ?_))));cases b;exact va (B false) (wln (jn g ⟨h,rfl⟩))
   rintro D M ⟨P,w1,_,rfl,d2,rfl,N,rfl⟩;refine nrm (cn H (fun d1 H=>?_) (fun d1 H=>?_))
   ·refine sr (va (B true) (wln (W.ret (bkr (thr ?_)))));cases H;exact ⟨_,rfl,⟨rfl,jn P ⟨N,rfl⟩⟩⟩
   refine W.skip (bkn (nrm (W.region (va (I a.2) (vv (I (w64 (a.2+1))) (WL.nil ?_))))));cases H;exact ⟨_,rfl,jn P ⟨N,rfl⟩⟩
  refine W.exit (thx ?_);cases H;exact ⟨_,rfl,rfl,jn g ⟨h,rfl⟩⟩
 ·exact jn c0 ⟨O0,rfl⟩
 rcases y with y|y
 ·intro u0; revert u0;rintro _ D M ⟨rfl,q0,x1,_,rfl,e2,rfl,l0,rfl⟩;refine bkr (thr ?_);cases H4;exact r1 (qq q0 ⟨l0,rfl⟩)
 rintro _ D M ⟨rfl,s0,y1,_,rfl,f2,rfl,o0,rfl⟩;refine bke (nrm (sr (va (v1) (vx (ln 3 nK f.m) (vv (B (decide ((s.length:Int)>50))) (wln (W.ret ?_)))))));cases H4;exact r1 (qq s0 ⟨o0,rfl⟩)
def kV (sg:Sto) (p0:aZ):Option (Sto×dz×Er):=
 (jQ sg p0.W p0.H).bind fun b=>
 (fE b.1 b.2 p0.Ops).bind fun a=>
 (dP a.1 b.2).bind fun c=>
 some (a.1,c,a.2)
theorem ud (T:Own c0 G F) (X:Rel c0 sg G) (hG:Gl [2,4,7] c0) (b:aZ){r:Sto×dz×Er}(D:Sl jK c0 v1 b.Ops) (H:kV sg b=some r): Calls prog 56 #[.agg #[I b.W,I b.H,v1]] c0.w (aR c0 fun c v=>∃p R S,∃G_:Gm,Own c G_ (es true am p 48 R r.2.1.Lines::F)/\Rel c r.1 G_/\v= .tuple #[.agg #[I r.2.1.Wide,I r.2.1.High,p,I r.2.1.At.Row,I r.2.1.At.Col,B r.2.1.At.Pending,B r.2.1.Auto],S]/\OA am c p R r.2.1.Lines/\RE 350 144 c S r.2.2):=by
 unfold kV at H;refine en func56 rfl rfl (sr ?_);obtain ⟨Z,a4,a5,rfl⟩:=(D).form;refine me (bx 79 [I b.W,I b.H,.slice Z a4 a5] T) ?_;rintro v10 c9 l9 ⟨n,rfl,U,o⟩;refine me (al 45 [I 0,I 0,Y,I 0,I 0,B false,B false] U) ?_;rintro v14 h0 l0 ⟨g0,rfl,s⟩;refine va (.nilIface) (wln (sr (va (Q n) (vx (l1 u_3 ((mm o) 0 _ rfl)) (va (Qo n (0+1)) (vx (l1 u_3 ((mm o) 1 _ rfl)) (bn H fun l A H=>cl (pV s X.m b.W b.H A) ?_)))))));rintro v16 i0 m0 ⟨_,e0,t,z,f0,rfl,k⟩;refine va (v16) (wln (sr (va (v16) (va (Qo n (0+2)) (vx (l1 nK ((mm o) 2 _ rfl)) (bn H fun d0 E H=>cl (se t z (hG.m.le (by decide)) l.2 b.Ops k D.m E) ?_))))));rintro v25 j0 o0 ⟨_,q,u,i,rfl,M⟩;refine va (v25) (wln (sr (va (v16) (bn H fun a N H=>cl (kK u i l.2 k.m N) ?_))));rintro v42 k0 q0 ⟨v34,P,x,rfl,g⟩;refine va (v25) ?_;obtain ⟨d,e,f,rfl⟩:=(g).form;refine md (sA 45 [I a.Wide,I a.High,.slice d e f,I a.At.Row,I a.At.Col,B a.At.Pending,B a.Auto] 1 x ⟨rfl,rfl,(g).one,rfl,rfl,rfl,rfl,trivial⟩) ?_;rintro j s0 h;refine va (v25) (wln (W.ret ?_));cases H;have y:=h.sD 2 [0];exact qV (c:=j) (vs:=[I a.Wide,I a.High,.slice d e f,I a.At.Row,I a.At.Col,B a.At.Pending,B a.Auto]) (v:=v25) rfl (by kernel_rfl) (by kernel_rfl) (by kernel_rfl) (by kernel_rfl) (h.on 1 rfl _ rfl).1 ⟨_,j,rfl,rfl,pt,(.slice d e f),P,v25,q,y,i.m,rfl,g.m,M.m⟩
def iw (sg:Sto) (p0:aZ):Option (Sto×(List Int)):=
 (jQ sg 1 1).bind fun f=>
 (cL (σ:=(List Int)×Int×Sto) (τ:=((List Int)×Sto)) (((p0.Ops.length:Int)-0).toNat+1) (fun a=>
 if (decide (a.2.1<(p0.Ops.length:Int)))=true then
 ((idx p0.Ops a.2.1).bind fun d=>
 (eR a.2.2 f.2 (⟨d.Kind,d.A,0,([]:List Int)⟩:aM)).bind fun b=>
 if (!b.2.isNil)=true then
 (app a.1 ([a.2.1]:List Int)).bind fun g=>
 some (g,b.1)
 else
 some (a.1,b.1)).bind fun e=>
 some (.inl (e.1,(w64 (a.2.1+1)),e.2))
 else
 some (.inr (a.1,a.2.2))) (([]:List Int),0,f.1)).bind fun c=>
 some (c.2,c.1)
theorem ru (O0:Own c0 G F) (R0:Rel c0 sg G) (hG:Gl [2,4,7] c0) (g:aZ){r:Sto×(List Int)}(t:Sl jK c0 v1 g.Ops) (H:iw sg g=some r): Calls prog 57 #[.agg #[I g.W,I g.H,v1]] c0.w (aR c0 fun c v=>∃y1 y2,∃G_:Gm,Own c G_ (es true (RI .i64) y1 3 y2 r.2::F)/\Rel c r.1 G_/\v=y1/\OA (RI .i64) c y1 y2 r.2):=by
 unfold iw at H;refine en func57 rfl rfl (sr ?_);obtain ⟨U,X,Z,rfl⟩:=(t).form;refine me (bx 79 [I g.W,I g.H,.slice U X Z] O0) ?_;rintro v10 c9 l9 ⟨b6,rfl,O7,m8⟩;refine va (Y) (wln (sr (va (Y) (wln (sr (bn H fun k2 h1 H=>cl (pV O7 R0.m 1 1 h1) ?_))))));rintro v12 j c2 ⟨_,d0,i0,v0,x2,rfl,i1⟩;refine va (v12) (wln (W.seq (sr (va (Qo b6 (0+2)) (vx (l1 nK ((mm m8) 2 _ rfl)) (vx (ln 3 nK t.m) (va (I 0) (wln (W.block (bn H fun v2 P x=>lp P (fun a=>Jn j fun c l=>∃v22 h G_,Own c G_ (es true (RI .i64) v22 3 h a.1::F)/\l= [(3,v22),(4,v12),(9,.slice U X Z),(10,I (g.Ops.length:Int)),(11,I a.2.1)]/\Rel c a.2.2 G_/\OA (RI .i64) c v22 h a.1) (fun f ex e w=>ex= .exit 0/\(Jn j fun c l=>∃v24 k G_,Own c G_ (es true (RI .i64) v24 3 k f.1::F)/\l= [(3,v24)]/\Rel c f.2 G_/\OA (RI .i64) c v24 k f.1) e w) ?_ ?_ ?_))))))))))
 ·clear x P;intro a q3 g1 j2 H;revert g1 j2;rintro e_ w_ ⟨N,e3,_,rfl,d2,rfl,v22,h,e0,y,rfl,D,q⟩;refine sr (va (B (decide (a.2.1<(g.Ops.length:Int)))) (wln (W.seq (cn H (fun j1 H=>?_) (fun j1 H=>?_)))))
  ·refine W.skip (nrm (bn H fun i b h0=>W.seqJ (Jn N fun c l=>∃v36 n G_,Own c G_ (es true (RI .i64) v36 3 n i.1::F)/\l= [(3,v36),(4,v12),(9,.slice U X Z),(10,I (g.Ops.length:Int)),(11,I a.2.1)]/\Rel c i.2 G_/\OA (RI .i64) c v36 n i.1) ?_ ?_))
   ·refine W.block (sr (va (I a.2.1) (bn b fun d R b=>?_)));obtain ⟨t2,k1,f2⟩:=Sl.at (t.mono (l9.trans (c2.trans d2))) (aU R);obtain ⟨v42,rfl,S⟩:=k1;refine vx (ix nK t.m R) (vx (lN 38 f2) (me (al 38 [I 0,I 0,I 0,Y] y) ?_));rintro v47 z2 e2 ⟨M,rfl,j0⟩;refine va (I a.2.1) ?_;obtain ⟨y0,z0,a1,rfl⟩:=((S.mono e2)).form;refine md (sA 38 [I d.Kind,I d.A,I d.B,.slice y0 z0 a1] 0 j0 ⟨rfl,rfl,rfl,S.m.one,trivial⟩) ?_;rintro b3 h3 o;refine wln (sr (va (v12) (va (Q M) (vx (le1 0 u_3 (o.on 0 rfl)) (va (Qo M 1) (vx (le1 1 u_3 (o.on 0 rfl)) (va (.agg #[I d.Kind,I d.A,I 0,Y]) (bn b fun a0 m1 b=>cl (lL o D.m (hG.m.le (by decide)) k2.2 (⟨d.Kind,d.A,0,([]:List Int)⟩:aM) i1.m (Sl.nl _ _) m1) ?_))))))));rintro v54 b1 i3 ⟨_,u,z,E,rfl,n1⟩;refine vr (B (!a0.2.isNil)) (by rcases (n1).cs with ⟨p,s⟩|⟨b_,p,s⟩|⟨b_,p,s⟩ <;> (subst p; rw [s]; kernel_rfl)) (wln (cn b (fun p1 b=>?_) (fun p1 b=>?_)))
    ·refine W.region (va (v22) (va (I a.2.1) (me (sl (RI .i64) 3 [[I a.2.1]] ([a.2.1]:List Int) z ⟨rfl,trivial⟩) ?_)));rintro p3 c3 j3 ⟨o3,k0,q1⟩;obtain ⟨d3,t1,k3,l0,s1⟩:=k0.frz 0 rfl q1;refine WL.gh t1 (bn b fun w2 u1 b=>me (ap (RI .i64) (I 0) 8 89 2 l0 q.m s1 u1 lm) ?_);rintro T c1 l3 ⟨g2,m0,w1⟩;refine va (T) (WL.nil (bkn (nrm ?_)));cases b;have o0:=m0.sD 3 [2];exact jn c1 ⟨T,g2,u,o0,rfl,E.m,w1⟩
    refine W.skip (bkn (nrm ?_));cases b;have q0:=z.sD 2 [1];exact jn b1 ⟨v22,h,u,q0,rfl,E,q.m⟩
   rintro e_ w_ ⟨d1,f3,_,rfl,m3,rfl,v36,n,f0,s0,rfl,w0,x1⟩;refine W.region (vv (I (w64 (a.2.1+1))) (WL.nil ?_));cases h0;exact ⟨_,rfl,jn d1 ⟨v36,n,f0,s0,rfl,w0,x1⟩⟩
  refine W.exit (thx ?_);cases H;exact ⟨_,rfl,rfl,jn N ⟨v22,h,e0,y,rfl,D,q⟩⟩
 ·have z1:OA (RI .i64) j (Y) [] []:=OA.nil (aN _);have t0:=i0.addHole (e:=es true (RI .i64) (Y) 3 [] ([]:List Int)) rfl;exact jn j ⟨(Y),[],d0,t0,rfl,v0,z1⟩
 rintro _ e_ w_ ⟨rfl,e1,g3,_,rfl,n3,rfl,v24,k,g0,u0,rfl,x0,b2⟩;refine bke (nrm (sr (vv (v24) (wln (W.ret ?_)))));cases x;exact r1 (qq e1 ⟨v24,k,g0,u0,x0,rfl,b2⟩)
def pQ (p0:aZ):Option (Unit):=
 some ()
theorem uc (e:Own c0 G F) (a:aZ){r:Unit}(l:Sl jK c0 v1 a.Ops) (H:pQ a=some r): Calls prog 55 #[.agg #[I a.W,I a.H,v1]] c0.w (aR c0 fun c v=>∃d:Nat,Own c G (F)/\v= .func (.func 97) #[] #[Q d]/\(∀j u,([I a.W,I a.H,v1]:List Value)[j]? = some u->Im c d (0+j) u)):=by
 unfold pQ at H;refine en func55 rfl rfl (sr ?_);obtain ⟨g,h,i,rfl⟩:=(l).form;refine me (bx 79 [I a.W,I a.H,.slice g h i] e) ?_;rintro v10 k n ⟨b,rfl,f,m⟩;refine va (.nilFunc) (wln (sr (vv (.func (.func 97) #[] #[Q b]) (wln (W.ret ?_)))));cases H;exact r1 (qq k ⟨b,f,rfl,m⟩)
def fP (p0:aZ):Option (Bool):=
 (fQ p0.Ops).bind fun c=>
 (orE c ((bT (decide (p0.W>60)) (some (decide (p0.H>60)))).bind fun a=>
 some a)).bind fun b=>
 some b
theorem qJ (x:Own c0 G F) (a:aZ){r:Bool}(t:Sl jK c0 v1 a.Ops) (H:fP a=some r): Calls prog 43 #[.agg #[I a.W,I a.H,v1]] c0.w (aR c0 fun c v=>Own c G (F)/\v=B r):=by
 unfold fP at H;refine en func43 rfl rfl (sr ?_);obtain ⟨z,A,D,rfl⟩:=(t).form;refine me (bx 79 [I a.W,I a.H,.slice z A D] x) ?_;rintro v10 E T ⟨j,rfl,y,k⟩;refine va (B false) (wln (W.seq (bn H fun u s H=>bn H fun q h H=>W.join (Jn E fun c l=>Own c G (F)/\l= [(2,B q)]) ?_ ?_)))
 ·clear H;refine W.region (va (Qo j (0+2)) (vx (l1 nK (k 2 _ rfl)) (cl (qK y a.Ops t.m s) ?_)));rintro v18 g P ⟨f,rfl⟩;rcases bo (u) with b|b
  ·obtain rfl:=orT b h;exact vb b (pz (pz (pz (pz (vv (B true) (wln (jn g ⟨f,rfl⟩)))))))
  have e:=orF b h;refine vb b (wa (Q j) (wn (vx (l1 u_3 ((mm k) 0 _ rfl)) (wa (B (decide (a.W>60))) (wn (bn e fun M i e=>?_))))));rcases bo (decide (a.W>60)) with d|d
  ·have n:=anT d i;refine vb d (wa (Qo j (0+1)) (wn (vx (l1 u_3 ((mm k) 1 _ rfl)) (wa (B (decide (a.H>60))) (wn ?_)))));cases n;refine va (B (decide (a.H>60))) ?_;cases e;exact vv (B (decide (a.H>60))) (wln (jn g ⟨f,rfl⟩))
  obtain rfl:=anF d i;refine vb d (pz (ps (wa (B false) ?_)));cases e;exact vv (B false) (wln (jn g ⟨f,rfl⟩))
 rintro S U ⟨p,N,_,rfl,R,rfl,o,rfl⟩;refine nrm (W.ret ?_);cases H;exact r1 (qq p ⟨o,rfl⟩)
def dK (sg:Sto):Option (Sto×Bool):=
 (kV sg (⟨2,1,([(⟨0,0,0,([97]:List Int)⟩:aM),(⟨99,0,0,([]:List Int)⟩:aM)]:List aM)⟩:aZ)).bind fun a=>
 (bT (a.2.1.Wide==2) (some (a.2.1.At.Row==0 && (a.2.1.At.Col==1 && (a.2.1.At.Pending==false && true))))).bind fun d=>
 (bT d ((rh a.2.2).bind fun g=>
 some (g==1))).bind fun e=>
 (if e=true then (iw a.1 (⟨2,1,([(⟨0,0,0,([97]:List Int)⟩:aM),(⟨99,0,0,([]:List Int)⟩:aM)]:List aM)⟩:aZ)).bind fun c=>
 some ((c.2.length:Int)==1,c.1) else some (false,a.1)).bind fun b=>
 (bT b.1 ((pQ (⟨2,1,([(⟨0,0,0,([97]:List Int)⟩:aM),(⟨99,0,0,([]:List Int)⟩:aM)]:List aM)⟩:aZ)).bind fun h=>
 some true)).bind fun f=>
 some (b.2,f)
theorem mN (O0:Own c0 G F) (R0:Rel c0 sg G) (hG:Gl [2,4,7] c0) (hT:Et c0){r:Sto×Bool}(H:dK sg=some r): Calls prog 42 #[] c0.w (aR c0 fun c v=>∃G_:Gm,Own c G_ (F)/\Rel c r.1 G_/\v=B r.2):=by
 unfold dK at H;refine en func42 rfl rfl (sr (va (B false) (wln (sr (me (sl (RI .u8) 5 [[.int .u8 97]] ([97]:List Int) O0 ⟨rfl,trivial⟩) ?_)))));rintro v5 c4 l4 ⟨u2,O1,h3⟩;refine me (Own.mark (T:=33) 0 O1 rfl h3 (by kernel_rfl) lW u_5 (by kernel_rfl)) ?_;rintro v9 c8 l8 ⟨O6,h7⟩;have c1:=O6.sD 1 [];obtain ⟨D,E,M,rfl⟩:=(h7).form;refine va (.agg #[I 0,I 0,I 0,.slice D E M]) (va (.agg #[I 99,I 0,I 0,Y]) (me (sl jK 38 [[I 0,I 0,I 0,.slice D E M],[I 99,I 0,I 0,Y]] ([(⟨0,0,0,([97]:List Int)⟩:aM),(⟨99,0,0,([]:List Int)⟩:aM)]:List aM) c1 ⟨⟨(.slice D E M),rfl,h7⟩,⟨(Y),rfl,(Sl.nl _ _)⟩,trivial⟩) ?_));rintro v18 t2 a3 ⟨f2,d1,g⟩;obtain ⟨b,d,e,rfl⟩:=(g).form;refine va (.agg #[I 2,I 1,.slice b d e]) (me (al 79 [I 0,I 0,Y] d1) ?_);rintro v25 v2 a0 ⟨m1,rfl,e1⟩;refine md (sA 79 [I 2,I 1,.slice b d e] 0 e1 ⟨rfl,rfl,g.m.one,trivial⟩) ?_;rintro w2 b0 f0;refine wln (sr (vx (leN 79 0 [I 2,I 1,.slice b d e] (f0.on 0 rfl)) ?_));obtain ⟨x2,t1,p0,f1,s1⟩:=f0.frz 1 rfl (g.mono (a0.trans b0));refine WL.gh t1 (bn H fun a u1 H=>cl (ud f1 R0.m (hG.m.le (by decide)) (⟨2,1,([(⟨0,0,0,([97]:List Int)⟩:aM),(⟨99,0,0,([]:List Int)⟩:aM)]:List aM)⟩:aZ) s1 u1) ?_);rintro v43 y2 q0 ⟨v33,g2,v36,x,g1,t,rfl,h0,v1⟩;refine va (.tuple #[.agg #[I a.2.1.Wide,I a.2.1.High,v33,I a.2.1.At.Row,I a.2.1.At.Col,B a.2.1.At.Pending,B a.2.1.Auto],v36]) (va (.agg #[I a.2.1.Wide,I a.2.1.High,v33,I a.2.1.At.Row,I a.2.1.At.Col,B a.2.1.At.Pending,B a.2.1.Auto]) (va (v36) (me (al 45 [I 0,I 0,Y,I 0,I 0,B false,B false] g1) ?_)));rintro v47 z2 d0 ⟨S,rfl,h1⟩;obtain ⟨N,P,R,rfl⟩:=((h0.mono d0)).form;refine md (sA 45 [I a.2.1.Wide,I a.2.1.High,.slice N P R,I a.2.1.At.Row,I a.2.1.At.Col,B a.2.1.At.Pending,B a.2.1.Auto] 0 h1 ⟨rfl,rfl,h0.m.one,rfl,rfl,rfl,rfl,trivial⟩) ?_;rintro U s0 f;refine va (v36) (wln (W.seq (bn H fun l2 i0 H=>bn H fun m2 Z H=>bn H fun z0 u H=>bn H fun a1 h H=>W.join (Jn U fun c l=>∃G_,Own c G_ ((Eb S 45 [I a.2.1.Wide,I a.2.1.High,.slice N P R,I a.2.1.At.Row,I a.2.1.At.Col,B a.2.1.At.Pending,B a.2.1.Auto])::es true am (.slice N P R) 48 g2 a.2.1.Lines::(Eb m1 79 [I 2,I 1,.slice b d e])::es false jK (.slice b d e) 38 f2 ([(⟨0,0,0,([97]:List Int)⟩:aM),(⟨99,0,0,([]:List Int)⟩:aM)]:List aM)::F)/\l= [(0,B a1)]/\Rel c z0.2 G_) ?_ ?_)))
 ·clear H;refine W.region (va (Q S) (vx (le1 0 u_3 (f.on 0 rfl)) (va (B (a.2.1.Wide==2)) ?_)));rcases bo (a.2.1.Wide==2) with i|i
  ·have b1:=anT i i0;refine vb i (wa (Qo S 3) (wn (vx (leN 29 3 [I a.2.1.At.Row,I a.2.1.At.Col,B a.2.1.At.Pending] (f.on 0 rfl)) (wa (.agg #[I 0,I 1,B false]) (wn (vr (B (a.2.1.At.Row==0 && (a.2.1.At.Col==1 && (a.2.1.At.Pending==false && true)))) (yZ (T:=29) (xs:= #[I a.2.1.At.Row,I a.2.1.At.Col,B a.2.1.At.Pending]) (ys:= #[I 0,I 1,B false]) (r:=(a.2.1.At.Row==0 && (a.2.1.At.Col==1 && (a.2.1.At.Pending==false && true)))) underlying29 (by kernel_rfl) (by kernel_rfl) (EqP.int (by kernel_rfl) u_3 rfl rfl (EqP.int (by kernel_rfl) u_3 rfl rfl (EqP.bool (by kernel_rfl) u_4 rfl rfl EqP.nil))) (by kernel_rfl) _) ?_))))));cases b1;refine va (B (a.2.1.At.Row==0 && (a.2.1.At.Col==1 && (a.2.1.At.Pending==false && true)))) ?_;rcases bo ((a.2.1.At.Row==0 && (a.2.1.At.Col==1 && (a.2.1.At.Pending==false && true)))) with j|j
   ·have y:=anT j Z;refine vb j (wa (v36) (wn (bn y fun o w1 y=>cl (zW f hT.m a.2.2 v1.m w1) ?_)));rintro e3 n1 t0 ⟨q,rfl⟩;refine wa (B (o==1)) ?_;cases y;refine va (B (o==1)) ?_;rcases bo (o==1) with k|k
    ·have z:=it k u;refine vb k (wn (vx (leN 79 0 [I 2,I 1,.slice b d e] (q.on 2 rfl)) (wn ?_)));have y1:=q.slf 3 rfl (g.mono (a0.trans (b0.trans (p0.trans (q0.trans (d0.trans (s0.trans t0)))))));refine bn z fun p z1 z=>cl (ru q t.m (hG.m.le (by decide)) (⟨2,1,([(⟨0,0,0,([97]:List Int)⟩:aM),(⟨99,0,0,([]:List Int)⟩:aM)]:List aM)⟩:aZ) y1 z1) ?_;rintro f3 p1 e2 ⟨_,d3,e0,s,g0,rfl,b2⟩;refine wn (vx (lnO 3 lm b2) (wa (B ((p.2.length:Int)==1)) ?_));cases z;refine va (B ((p.2.length:Int)==1)) ?_;rcases bo ((p.2.length:Int)==1) with n|n
     ·have A:=anT n h;refine vb n (wn (vx (leN 79 0 [I 2,I 1,.slice b d e] (s.on 3 rfl)) (wn ?_)));have c2:=s.slf 4 rfl (g.mono (a0.trans (b0.trans (p0.trans (q0.trans (d0.trans (s0.trans (t0.trans e2))))))));refine bn A fun q2 d2 A=>cl (uc s (⟨2,1,([(⟨0,0,0,([97]:List Int)⟩:aM),(⟨99,0,0,([]:List Int)⟩:aM)]:List aM)⟩:aZ) c2 d2) ?_;rintro g3 q1 b3 ⟨s2,i1,rfl,c3⟩;refine wa (B true) ?_;cases A;refine vv (B true) (wln ?_);have j1:=i1.sD 5 [1,2,3,4];exact jn q1 ⟨e0,j1,rfl,g0.m⟩
     obtain rfl:=anF n h;refine vb n (pz (ps (vv (B false) (wln ?_))));have k1:=s.sD 5 [1,2,3,4];exact jn p1 ⟨e0,k1,rfl,g0⟩
    obtain rfl:=bj (ie k u);refine vb k (pz (pz (va (B false) ?_)));have j0:false=false:=rfl;obtain rfl:=anF j0 h;exact vb j0 (pz (ps (vv (B false) (wln (jn n1 ⟨x,q,rfl,t.m⟩)))))
   obtain rfl:=anF j Z;refine vb j (pz (ps (va (B false) ?_)));have k0:false=false:=rfl;obtain rfl:=bj (ie k0 u);refine vb k0 (pz (pz (va (B false) ?_)));have l0:false=false:=rfl;obtain rfl:=anF l0 h;exact vb l0 (pz (ps (vv (B false) (wln (jn U ⟨x,f,rfl,t.m⟩)))))
  obtain rfl:=anF i i0;refine vb i (pz (pz (va (B false) ?_)));have m0:false=false:=rfl;obtain rfl:=anF m0 Z;refine vb m0 (pz (ps (va (B false) ?_)));have o0:false=false:=rfl;obtain rfl:=bj (ie o0 u);refine vb o0 (pz (pz (va (B false) ?_)));have X:false=false:=rfl;obtain rfl:=anF X h;exact vb X (pz (ps (vv (B false) (wln (jn U ⟨x,f,rfl,t.m⟩)))))
 rintro e_ w_ ⟨y0,n2,_,rfl,p2,rfl,u0,v0,rfl,x0⟩;refine nrm (W.ret ?_);cases H;have w0:=v0.sD 4 [];exact r1 (qq y0 ⟨u0,w0,x0,rfl⟩)
end Go.Proofs.YtclmdpamofdoiaaGreatDoor
namespace Go.Lt
set_option linter.unusedVariables false
def isC:Obj->Bool
  | .cells _ _ _=>true
  | _=>false
section
variable {P:Program}{n:Nat}{df:List Deferred}{Q:List Deferred->Exit->(Nat->Value)->World->Prop}{e:Nat->Value}{w:World}{a b:Code}
def WR (P:Program) (n:Nat) (c:Code) (Q:List Deferred->Exit->(Nat->Value)->World->Prop) (df:List Deferred) (e:Nat->Value) (w:World):Prop:=
  c.wpIn (fen none) 0 P (fun x a w=>HR x/\∃e d,a=act ⟨n,d,none⟩ e/\Q d x e w) (act ⟨n,df,none⟩ e) w
theorem WR.of (h:W P ⟨n,df,none⟩ a (Q df) e w):WR P n a Q df e w:=mx h fun x a w ⟨ht,e,ha,hq⟩=>⟨ht,e,df,ha,hq⟩
theorem WR.seq (h:WR P n a (fun d=>oS (fun e w=>WR P n b Q d e w) (Q d)) df e w):WR P n (a.seq b) Q df e w:=
  wpIn_seq (mx h fun x a' w' ⟨ht,e',d,ha,hQ⟩=>by
    subst ha
    cases x with
    | normal=>exact hQ
    | _=>exact ⟨ht,e',d,rfl,hQ⟩)
theorem WR.block {id:Nat}(h:WR P n a (fun d=>nB id (Q d)) df e w):WR P n (.block id a) Q df e w:=
  wpIn_block (mx h fun x a' w' ⟨ht,e',d,ha,hQ⟩=>by
    subst ha
    cases x with
    | exit i=>
      simp only [Exit.inBlock];by_cases hi:i=id
      · subst hi
        rw [ae rfl];exact ⟨trivial,e',d,rfl,by simpa [nB] using hQ⟩
      · rw [af hi]
        have:Nat.beq i id=false:=by
          cases hb:Nat.beq i id with
          | false=>rfl
          | true=>exact absurd (oA hb) hi
        exact ⟨trivial,e',d,rfl,by simpa [nB,this] using hQ⟩
    | _=>exact ⟨ht,e',d,rfl,hQ⟩)
def BJ (P:Program) (fn:Func) (n:Nat) (R:Ending->World->Prop) (df:List Deferred):Exit->(Nat->Value)->World->Prop
  | .normal,e,w=>LeavesInM (fen none) 0 P fn (act ⟨n,[],none⟩ e).tmps R df .returning w
  | .ret,e,w=>LeavesInM (fen none) 0 P fn (act ⟨n,[],none⟩ e).tmps R df .returning w
  | _,_,_=>False
theorem enR {f:FuncId}{fn:Func}{code:Code}{l:List Value}{R:Ending->World->Prop}(hf:P.funcs[f]? = some fn) (hb:fn.body=some code) (hn:fn.ntmps=n)
    (h:WR P n code (BJ P fn n R) [] (ar l) w) (hl:Nat.ble l.length n=true:=by rfl):Calls P f l.toArray w R:=by
  subst hn;have hl:=bJ hl;refine (Hr (n:=0)).1 (callsIn_of_wp_marks hf hb trivial ?_);rw [sR,<-EE _ l hl];refine mx h ?_;rintro x a w' ⟨_,e',d,rfl,hq⟩
  cases x <;> first|exact hq|exact hq.elim
def mark (D:Nat):Deferred:={ target:= .collected D,args:= #[]}
theorem GY {fn:Func}{tm:Array Value}{R:Ending->World->Prop}{D:Nat}{v:Value}(hD:w.heap[D]? = some (.deferred (some [])))
    (hr:(results fn tm).run P (w.putObj D (.deferred none))= .ok v (w.putObj D (.deferred none))) (hR:R (.returned v) (w.putObj D (.deferred none))):LeavesInM (fen none) 0 P fn tm R [mark D] .returning w:=
  ⟨by simp,.inl ⟨D,_,rfl,run_takeDeferred hD,v,hr,hR⟩⟩
theorem GZ {fn:Func}{tm:Array Value}{R:Ending->World->Prop}{v:Value}(hr:(results fn tm).run P w= .ok v w) (hR:R (.returned v) w):LeavesInM (fen none) 0 P fn tm R [] .returning w:=⟨v,hr,hR⟩
def E5 (fn:FuncId) (tm:Array Value) (ps:Array Tmp) (assign body:Code) (D:Nat) (st:LoopState) (pe:Option Code):Loop:={ state:=st,pending:=pe,fn,tmps:=tm,params:=ps,assign,body,defers:=D}
theorem WR.range {g:Operand}{ps:Array Tmp}{assign body:Code}{gf:Nat}{lb:Array Value}(hg:ev n e g= .func (.func gf) #[] lb) (eg:∀args w,(callFunc gf args).run P w= .ok (.enter gf args) w)
    (h:∀(fn:FuncId) (rc:LoopState->Option Code->Loop),rc=E5 fn (act ⟨n,df,none⟩ e).tmps ps assign body w.heap.size->Calls P gf (#[.func (.yield (w.heap.size+1)) #[] #[]]++lb) ((w.alloc (.deferred (some []))).alloc (.loop (rc .ready none)))
      fun x w3=>∃v,x= .returned v/\
        ((w3.heap[w.heap.size+1]? = some (.loop (rc .ready none))/\Q (mark w.heap.size::df) .normal e (w3.putObj (w.heap.size+1) (.loop (rc .exhausted none))))\/
         ∃c,w3.heap[w.heap.size+1]? = some (.loop (rc .done (some c)))/\WR P n c Q (mark w.heap.size::df) e (w3.putObj (w.heap.size+1) (.loop (rc .exhausted (some c)))))):
    WR P n (.rangeFunc g ps assign body) Q df e w:=by
  refine wpIn_rangeFunc (fun fn _=>?_);have hg':(act ⟨n,df,none⟩ e).eval g= .func (.func gf) #[] lb:=by rw [mu]; exact hg
  have h:=h fn _ rfl;have h1:=run_enterLoop_outer (P:=P) (w:=w) fn (act ⟨n,df,none⟩ e).tmps ps assign body;have h2:∀W:World,(resolve (act ⟨n,df,none⟩ e).eval (rangeCall g (w.heap.size+1)) 0).run P W= .ok { target:= .fn (.func gf) lb,args:= #[.func (.yield (w.heap.size+1)) #[] #[]]} W:=fun W=>by
    simp only [resolve,hg'];simp [go_sem]
  have h3:∀W:World,(invoke (.fn (.func gf) lb) #[.func (.yield (w.heap.size+1)) #[] #[]]).run P W= .ok (.enter gf (#[.func (.yield (w.heap.size+1)) #[] #[]]++lb)) W:=fun W=>by
    simp [invoke,go_sem,eg]
  refine Exists.intro (w.heap.size+1) (Exists.intro [mark w.heap.size] (Exists.intro _ (Exists.intro { target:= .fn (.func gf) lb,args:= #[.func (.yield (w.heap.size+1)) #[] #[]]} (Exists.intro _ (Exists.intro gf (Exists.intro (#[.func (.yield (w.heap.size+1)) #[] #[]]++lb) (Exists.intro _ ⟨h1,h2 _,fun _ _=>trivial,h3 _,fun hd=>(by cases hd),?_⟩)))))));refine vh (h.mono fun x w3 hx=>?_);obtain ⟨v,rfl,hv⟩:=hx;rcases hv with ⟨k1,k2⟩|⟨c,k1,k2⟩
  · exact ⟨none,_,run_endLoop k1 (by simp [E5]),trivial,e,mark w.heap.size::df,rfl,k2⟩
  · exact ⟨some c,_,run_endLoop k1 (by simp [E5]),k2⟩
end
theorem WL.round {P:Program}{ops:Array Oper}{n:Fr}{Q:Exit->(Nat->Value)->World->Prop}{rest:List Oper}{e:Nat->Value}{o:Oper}{w:World}{l:Nat}{args:Array Value}(hg:o.guard=none)
    (hr:(execOp (ev n e) o).run P w=(Instr.yield l args).run P w) (hy:YieldAt (fen n.ro) 0 P l args w fun x w'=>∃v,x= .returned v/\WL P ops n Q rest (upO e o.dst v) w'):WL P ops n Q (o::rest) e w:=by
  obtain ⟨fn,tm,assign,body,hy1,hR⟩:=hy;refine vO hg fun K hK=>⟨fun _ _=>trivial,?_⟩;rw [mu,qS (hr.trans hy1) (by simp),Oper.uponIn_round];refine ⟨fun h=>(by cases h),hR.mono ?_⟩;rintro x w' ⟨v,rfl,h⟩;simp only [qc];exact hK _ _ h
theorem ym {F:Fence}{m:Nat}{P:Program}{l:Nat}{args:Array Value}{w:World}{R R':Ending->World->Prop}(h:YieldAt F m P l args w R) (hr:∀x w',R x w'->R' x w'):YieldAt F m P l args w R':=by
  obtain ⟨fn,tm,assign,body,hy,hR⟩:=h;exact ⟨fn,tm,assign,body,hy,hR.mono hr⟩
def rdQ (l:Nat) (r:LoopState->Option Code->Loop) (R:Ending->World->Prop):Exit->(Nat->Value)->World->Prop
  | .normal,_,w=>w.heap[l]? = some (.loop (r .busy none))/\R (.returned (.bool true)) (w.putObj l (.loop (r .ready none)))
  | .ret,_,w=>w.heap[l]? = some (.loop (r .busy none))/\R (.returned (.bool false)) (w.putObj l (.loop (r .done (some .ret))))
  | .exit i,_,w=>w.heap[l]? = some (.loop (r .busy none))/\R (.returned (.bool false)) (w.putObj l (.loop (r .done (some (.exit i)))))
  | _,_,_=>False
theorem Dh (n:Fr) (e:Nat->Value) (d:Nat) (v:Value):(act n e).tmps.setIfInBounds d v=(act n (up e d v)).tmps:=gY Act.tmps (qc n e (some d) v)
theorem Iz (n:Nat) (df:List Deferred) (r0:Option Nat) (l:Nat) (e:Nat->Value) (p1 p2:Nat) (a1 a2:Value):
    ((#[p1,p2]:Array Tmp).zip #[a1,a2]).foldl (fun t (p,v)=>t.setIfInBounds p v) (act ⟨n,df,r0⟩ e).tmps=(act ⟨n,[],some l⟩ (up (up e p1 a1) p2 a2)).tmps:=by
  have hz:((#[p1,p2]:Array Tmp).zip #[a1,a2])= #[(p1,a1),(p2,a2)]:=by simp
  rw [hz,<-Array.foldl_toList];show ((act ⟨n,df,r0⟩ e).tmps.setIfInBounds p1 a1).setIfInBounds p2 a2=_;rw [Dh,Dh];rfl
theorem CY {P:Program}{n:Nat}{r0:Option Nat}{w:World}{l:Nat}{fn:FuncId}{tm:Array Value}{ps:Array Tmp}{assign body:Code}{D:Nat}{rc:LoopState->Option Code->Loop}(hrc:rc=E5 fn tm ps assign body D){args:Array Value}{R:Ending->World->Prop}{e1:Nat->Value}
    (hl:w.heap[l]? = some (.loop (rc .ready none))) (hs:args.size=ps.size) (he:(ps.zip args).foldl (fun t (p,v)=>t.setIfInBounds p v) tm=(act ⟨n,[],some l⟩ e1).tmps)
    (h:W P ⟨n,[],some l⟩ assign (oS (fun e2 w1=>w1.heap[l]? = some (.loop (rc .ready none))/\
      W P ⟨n,[],some l⟩ body (rdQ l rc R) e2 (w1.putObj l (.loop (rc .busy none)))) (fun _ _ _=>False)) e1 w):YieldAt (fen r0) 0 P l args w R:=by
  subst hrc;refine ⟨fn,_,assign,body,run_yield hl hs,roundIn_of_wpIn trivial ?_⟩;have hz:(fen r0).inRound l=fen (some l):=rfl;rw [hz];have ha:({ tmps:=(ps.zip args).foldl (fun t (p,v)=>t.setIfInBounds p v) tm,defers:=[]}:Act)=act ⟨n,[],some l⟩ e1:=by rw [he]; rfl
  show assign.wpIn (fen (some l)) 0 P _ ({ tmps:=(ps.zip args).foldl (fun t (p,v)=>t.setIfInBounds p v) tm,defers:=[]}:Act) w;rw [ha];refine mx h ?_;rintro x a w1 ⟨ht,e2,rfl,hq⟩
  cases x with
  | normal=>
    obtain ⟨h1,h2⟩:=hq;refine ⟨_,run_beginRound h1 rfl,mx h2 ?_⟩;rintro y a' w2 ⟨_,e3,rfl,hy⟩
    cases y with
    | normal=>exact ⟨_,_,run_endRound none hy.1,hy.2⟩
    | ret=>exact ⟨_,_,run_endRound (some .ret) hy.1,hy.2⟩
    | exit i=>exact ⟨_,_,run_endRound (some (.exit i)) hy.1,hy.2⟩
    | _=>exact hy.elim
  | _=>exact hq.elim
structure Rec (c:Cx) (l D:Nat) (r:Loop):Prop where
  rc:c.w.heap[l]? = some (.loop r)
  nl:∀o,¬c.A l o
  def_:c.w.heap[D]? = some (.deferred (some []))
  nD:∀o,¬c.A D o
theorem Rec.mono {c c':Cx}{l D:Nat}{r:Loop}(h:Rec c l D r) (k:c.le c'):Rec c' l D r:=by
  have hl:=(Array.getElem?_eq_some_iff.1 h.rc).1;have hD:=(Array.getElem?_eq_some_iff.1 h.def_).1;exact ⟨(k.block l hl h.nl).trans h.rc,fun o=>(k.cell l o hl (h.nl o)).2,(k.block D hD h.nD).trans h.def_,fun o=>(k.cell D o hD (h.nD o)).2⟩
def Cx.turn (c:Cx) (l:Nat) (o:Obj):Cx:=⟨c.w.putObj l o,c.A,c.t⟩
theorem Cx.turn_lw {c:Cx}{l:Nat}{o o':Obj}(h:c.w.heap[l]? = some o) (ho:isC o=false) (ho':isC o'=false):c.lw (c.turn l o'):=by
  have hlt:=(Array.getElem?_eq_some_iff.1 h).1;have same:∀k,k≠l->(c.w.putObj l o').heap[k]? = c.w.heap[k]? :=fun k hk=>World.putObj_heap_other hk;have at_l:(c.w.putObj l o').heap[l]? = some o':=World.putObj_heap_same hlt;refine ⟨rfl,rfl,by simp [Cx.turn,World.putObj],fun k q hk hA=>⟨?_,hA⟩,fun k vs T f hk _=>?_,fun a _ _=>?_,fun _ _ _ h=>h⟩
  · show (c.w.putObj l o').cell? _=_
    by_cases e:k=l
    · subst e
      unfold World.cell?;rw [at_l,h]
      cases o <;> cases o' <;> first|rfl|(simp [isC] at ho ho')
    · exact kg (w:=c.w) (a:=⟨k,q,none⟩) (same k e)
  · refine same k fun e=>?_
    subst e;rw [h] at hk;cases hk;simp [isC] at ho
  · show (c.w.putObj l o').frozen? a=_
    by_cases e:a.block=l
    · unfold World.frozen?
      rw [e,at_l,h]
      cases o <;> cases o' <;> first|rfl|(simp [isC] at ho ho')
    · unfold World.frozen?
      rw [same _ e]
theorem Own.turn {c:Cx}{G:Gm}{F:List En}{l:Nat}{o o':Obj}(O:Own c G F) (h:c.w.heap[l]? = some o) (ho:isC o=false):Own (c.turn l o') G F:=
  ⟨⟨fun i e he b hb=>by
    have h1:=O.m.1 i e he b hb;refine ⟨?_,h1.2⟩;have hne:b≠l:=fun e2=>by
      subst e2;rw [h] at h1;have:=h1.1;cases this;simp [isC] at ho
    exact (World.putObj_heap_other hne).trans h1.1,O.m.2⟩,O.t0⟩
abbrev JnW (c0:Cx) (q:Cx->List (Nat×Value)->Prop):(Nat->Value)->World->Prop:=fun e w=>∃c e0 l,w=c.w/\c0.lw c/\e=ups e0 l/\q c l
theorem jnW {c0:Cx}{q:Cx->List (Nat×Value)->Prop}{e:Nat->Value}{l:List (Nat×Value)}(c:Cx) (h:q c l) (k:c0.lw c) (u:l.map (fun x=>e x.1)=l.map (fun x=>x.2):=by kernel_rfl):JnW c0 q e c.w:=⟨c,e,l,rfl,k,us u,h⟩
theorem WR.sr {P:Program}{n:Nat}{df:List Deferred}{Q:List Deferred->Exit->(Nat->Value)->World->Prop}{e:Nat->Value}{w:World}{b:Code}{id:Nat}{l:List Oper}
    (h:WL P l.toArray ⟨n,df,none⟩ (oS (fun e w=>WR P n b Q df e w) (Q df)) l e w):WR P n ((Code.region id l.toArray false).seq b) Q df e w:=WR.seq (WR.of (W.region h))
theorem Cx.loop (c:Cx) (r:Loop):∃c':Cx,c'.w=(c.w.alloc (.deferred (some []))).alloc (.loop r)/\c.but (fun _=>False) c'/\Rec c' (c.w.heap.size+1) c.w.heap.size r:=by
  have hb:∀k,k<c.w.heap.size->((c.w.alloc (.deferred (some []))).alloc (.loop r)).heap[k]? = c.w.heap[k]? :=fun k hk=>
    (cq _ _ _ (by simp; omega)).trans (cq _ _ _ hk)
  refine ⟨⟨(c.w.alloc (.deferred (some []))).alloc (.loop r),fun k o=>k<c.w.heap.size/\c.A k o,c.t⟩,rfl,⟨⟨rfl,rfl,by simp; omega,fun k o hk hA=>⟨kg (w:=c.w) (a:=⟨k,o,none⟩) (hb k hk),fun h=>hA h.2⟩,fun k hk _=>hb k hk,fun a ha _=>?_,fun _ _ _ h=>h⟩,rfl,fun k hk _=>⟨hb k hk,fun o=>⟨fun h=>h.2,fun h=>⟨hk,h⟩⟩⟩⟩,?_,?_,?_,?_⟩
  · unfold World.frozen?
    rw [hb _ ha]
  · have:=World.alloc_heap_new (c.w.alloc (.deferred (some []))) (.loop r)
    rwa [World.size_alloc] at this
  · intro o h; omega
  · exact (cq _ _ _ (by simp)).trans (World.alloc_heap_new c.w _)
  · intro o h; omega
theorem Cx.le.turn {cb c:Cx}(h:cb.le c){l:Nat}{o o':Obj}(hl:cb.w.heap.size<=l) (hc:c.w.heap[l]? = some o) (ho:isC o=false) (ho':isC o'=false):cb.le (c.turn l o'):=by
  have k:=h.lw.trans (Cx.turn_lw hc ho ho');refine ⟨k.os,k.output,k.size,k.cell,fun i hi hA=>?_,k.frz,k.t⟩;exact (World.putObj_heap_other (by omega)).trans (h.block i hi hA)
theorem Rec.turn {c:Cx}{l D:Nat}{r:Loop}(h:Rec c l D r) (r':Loop):Rec (c.turn l (.loop r')) l D r':=by
  have hlt:=(Array.getElem?_eq_some_iff.1 h.rc).1;have hne:D≠l:=fun e=>by
    have h1:=h.rc;rw [<-e,h.def_] at h1;cases h1
  exact ⟨World.putObj_heap_same hlt,h.nl,(World.putObj_heap_other hne).trans h.def_,h.nD⟩
section
variable {P:Program}{α:Type}{R:Rp α}{c:Cx}{G:Gm}{F:List En}
end
end Go.Lt
namespace Go.Proofs.YtclmdpamofdoiaaGreatDoor
open Go Go.Lt
set_option maxRecDepth 10000
set_option linter.unusedVariables false
attribute [local irreducible] W WL AC
def kC {σ:Type}(y:σ->Int->dz->Option (σ×Bool)) (sg:Sto) (p:aZ) (s:σ):Option (Sto×σ):=
 (jQ sg p.W p.H).bind fun a=>
 (dP a.1 a.2).bind fun v=>
 (y s 0 v).bind fun z=>
 if (!z.2)=true then
 some (a.1,z.1)
 else
 (cL (σ:=Int×Sto×σ) (τ:=(Sto×σ) ⊕ (Sto×σ)) (((p.Ops.length:Int)-0).toNat+1) (fun b=>
 if (decide (b.1<(p.Ops.length:Int)))=true then
 (idx p.Ops b.1).bind fun o=>
 (eR b.2.1 a.2 o).bind fun d=>
 (dP d.1 a.2).bind fun v=>
 (y b.2.2 (w64 (b.1+1)) v).bind fun z=>
 if (!z.2)=true then
 some (.inr (.inl (d.1,z.1)))
 else
 some (.inl (w64 (b.1+1),d.1,z.1))
 else
 some (.inr (.inr (b.2.1,b.2.2)))) (0,a.1,z.1)).bind fun u=>match u with
 | .inl q=>some q
 | .inr q=>some q
open Tryz
variable {c0:Cx}{G:Gm}{F:List En}{sg:Sto}{v1 v2:Value}
theorem GH {P:Program}{fn:Func}{n:Nat}{R:Ending->World->Prop}{c:Cx}{e:Nat->Value}{D t b:Nat}{T:TypeId}{v:Value}(hD:c.w.heap[D]? = some (.deferred (some []))) (hl:(Instr.loadAt T (Q b)).run P (c.turn D (.deferred none)).w= .ok v (c.turn D (.deferred none)).w) (h:R (.returned v) (c.turn D (.deferred none)).w)
    (hr:fn.results= #[.cell t T]:=by rfl) (hv:ev n e (.tmp t)=Q b:=by kernel_rfl):BJ P fn n R [Go.Lt.mark D] .ret e c.w:=by
  refine GY hD ?_ h;have ht:=fC ⟨n,[],none⟩ e t;rw [hv,bE] at ht;simp only [Instr.loadAt,Instr.sureAddr,fG,qM,Result.andThen] at hl;have hl':(loadVar T ⟨b,0,none⟩).run P (c.w.putObj D (.deferred none))= .ok v (c.w.putObj D (.deferred none)):=hl;simp [results,hr,ht,asAddr,hl']
end Go.Proofs.YtclmdpamofdoiaaGreatDoor
namespace Go.Proofs.YtclmdpamofdoiaaGreatDoor
open Go Go.Lt
set_option maxRecDepth 10000
set_option linter.unusedVariables false
attribute [local irreducible] W WL AC
variable {c0:Cx}{G:Gm}{F:List En}{sg:Sto}{v1 v2:Value}
open Tryz
set_option maxHeartbeats 1000000 in
theorem wG {σ:Type}{J:σ->Cx->List En->Prop}(hJ:∀s c c' L,c.le c'->J s c L->J s c' L){y:σ->Int->dz->Option (σ×Bool)}(lr:Nat)
  (hY:∀s i v z c G F L vv,y s i v=some z->Own c G (L++F)->J s c L->Sl am c vv v.Lines->YieldAt (fen none) 0 Tryz.prog lr #[I i,.agg #[I v.Wide,I v.High,vv,I v.At.Row,I v.At.Col,B v.At.Pending,B v.Auto]] c.w fun x w'=>∃c',w'=c'.w/\c.lw c'/\x= .returned (B z.2)/\∃L',Own c' G (L'++F)/\J z.1 c' L')
  {p:aZ}{s0:σ}{r:Sto×σ}{bc:Nat}{L0:List En}(hb:∀j u,([I p.W,I p.H,v1]:List Value)[j]? = some u->Im c0 bc (0+j) u) (hl:Sl jK c0 v1 p.Ops) (hG:Gl [2,4,7] c0) (O0:Own c0 G (L0++F)) (R0:Rel c0 sg G) (hk:J s0 c0 L0) (H:kC y sg p s0=some r):
  Calls Tryz.prog 97 #[.func (.yield lr) #[] #[],Q bc] c0.w fun x w'=>∃c' G',w'=c'.w/\c0.lw c'/\x= .returned (.tuple #[])/\∃L',Own c' G' (L'++F)/\Rel c' r.1 G'/\J r.2 c' L':=by
 unfold kC at H
 refine en func97 rfl rfl (sr (va (Q bc) (vx (l1 u_3 (hb 0 _ rfl)) (va (Qo bc (0+1)) (vx (l1 u_3 (hb 1 _ rfl)) (bn H fun a ha H=>cl (pV O0 R0 p.W p.H ha) ?_))))))
 rintro vs c1 k1 ⟨_,G1,O1,R1,ad,rfl,hs⟩
 refine va vs (wln (W.seq (sr (va (.func (.yield lr) #[] #[]) (va vs (bn H fun v hv H=>cl (kK O1 R1 a.2 hs hv) ?_))))))
 rintro vv c2 k2 ⟨X,y2,O2,rfl,hX⟩
 obtain ⟨c3,e3,k3,O3,hS⟩:=O2.frz 0 rfl hX
 have O3':=O3.tail
 refine WL.gh e3 (bn H fun z hz H=>WL.round (l:=lr) (args:= #[I 0,.agg #[I v.Wide,I v.High,X,I v.At.Row,I v.At.Col,B v.At.Pending,B v.Auto]]) rfl (by kernel_rfl) (ym (hY _ _ _ _ _ _ _ _ _ hz O3' (hJ _ _ _ _ (k1.trans (k2.trans k3)) hk) hS) ?_))
 rintro x w' ⟨c4,rfl,k4,rfl,L4,O4,hk4⟩
 have kA:c0.lw c4:=(k1.trans (k2.trans k3)).lw.trans k4
 have hG4:=hG.lw kA
 have hl4:=hl.lw kA
 have hs4:Pt 5 c4 vs a.2:=(hs.mono (k2.trans k3)).lw k4
 have R4:Rel c4 a.1 G1:=(R1.mono (k2.trans k3)).lw k4
 refine ⟨_,rfl,va (B (!z.2)) (wln (cn H (fun h H=>?_) (fun h H=>?_)))⟩
 ·refine W.ret (thr ?_)
  cases H
  exact r0 ⟨c4,G1,rfl,kA,rfl,L4,O4,R4,hk4⟩
 refine W.skip (nrm (sr (va (Qo bc (0+2)) (vx (l1 nK ((hb 2 _ rfl).lw kA)) (vx (ln 3 nK hl4) (va (I 0) (wln (W.block (bn H fun u hu H=>lp hu (fun b=>JnW c4 fun c sl=>∃G_ L_,Own c G_ (L_++F)/\sl= [(0,.func (.yield lr) #[] #[]),(3,vs),(17,v1),(18,I (p.Ops.length:Int)),(19,I b.1)]/\Rel c b.2.1 G_/\J b.2.2 c L_)
  (fun u ex e w=>match u with|.inl q=>ex= .ret/\JnW c4 (fun c sl=>∃G_ L_,Own c G_ (L_++F)/\sl= []/\Rel c q.1 G_/\J q.2 c L_) e w|.inr q=>ex= .exit 0/\JnW c4 (fun c sl=>∃G_ L_,Own c G_ (L_++F)/\sl= []/\Rel c q.1 G_/\J q.2 c L_) e w) ?_ ?_ ?_)))))))))
 ·clear H hu
  intro b x e w H
  rintro ⟨c,e0,_,rfl,kc,rfl,Gb,Lb,Ob,rfl,Rb,Kb⟩
  refine sr (va (B (decide (b.1<(p.Ops.length:Int)))) (wln (W.seq (cn H (fun D H=>?_) (fun D H=>?_)))))
  ·refine W.skip (nrm (W.seq (W.block (sr (va (I b.1) (bn H fun o ho H=>?_))))))
   have hlc:=hl4.lw kc
   obtain ⟨t2,q1,f2⟩:=Sl.at hlc (aU ho)
   obtain ⟨vb,rfl,S⟩:=q1
   refine vx (ix nK hlc ho) (vx (lN 38 f2) (me (al 38 [I 0,I 0,I 0,Y] Ob) ?_))
   rintro v47 c5 k5 ⟨M,rfl,j0⟩
   refine va (I b.1) ?_
   obtain ⟨y0,z0,a1,rfl⟩:=((S.mono k5)).form
   refine md (sA 38 [I o.Kind,I o.A,I o.B,.slice y0 z0 a1] 0 j0 ⟨rfl,rfl,rfl,S.m.one,trivial⟩) ?_
   rintro c6 k6 O6
   refine wln (sr (va vs (vx (leN 38 0 [I o.Kind,I o.A,I o.B,.slice y0 z0 a1] (O6.on 0 rfl)) (bn H fun d hd H=>cl (lL O6 (Rb.mono (k5.trans k6)) ((hG4.lw kc).mono (k5.trans k6)) a.2 o ((hs4.lw kc).mono (k5.trans k6)) (S.mono (k5.trans k6)) hd) ?_))))
   rintro v26 c7 k7 ⟨_,G7,O7,R7,rfl,hE⟩
   refine wln (sr (va (.func (.yield lr) #[] #[]) (va (I b.1) (va (I (w64 (b.1+1))) (va vs (bn H fun v hv H=>cl (kK O7 R7 a.2 ((hs4.lw kc).mono (k5.trans (k6.trans k7))) hv) ?_))))))
   rintro vv c8 k8 ⟨X,y2,O8,rfl,hX⟩
   obtain ⟨c9,e9,k9,O9,hS⟩:=O8.frz 0 rfl hX
   have O9':=O9.tail.tail
   have kl:=k5.trans (k6.trans (k7.trans (k8.trans k9)))
   refine WL.gh e9 (bn H fun z hz H=>WL.round (l:=lr) (args:= #[I (w64 (b.1+1)),.agg #[I v.Wide,I v.High,X,I v.At.Row,I v.At.Col,B v.At.Pending,B v.Auto]]) rfl (by kernel_rfl) (ym (hY _ _ _ _ _ _ _ _ _ hz O9' (hJ _ _ _ _ kl Kb) hS) ?_))
   rintro x w' ⟨cA,rfl,kB,rfl,LA,OA_,hkA⟩
   have kcA:=kc.trans (kl.lw.trans kB)
   have RA:Rel cA d.1 G7:=(R7.mono (k8.trans k9)).lw kB
   refine ⟨_,rfl,va (B (!z.2)) (wln (cn H (fun h H=>?_) (fun h H=>?_)))⟩
   ·refine W.ret (bkr (thr ?_))
    cases H
    exact ⟨_,rfl,rfl,jnW cA ⟨G7,LA,OA_,rfl,RA,hkA⟩ kcA⟩
   ·refine W.skip (bkn (nrm (W.region (vv (I (w64 (b.1+1))) (WL.nil ?_)))))
    cases H
    exact ⟨_,rfl,jnW cA ⟨G7,LA,OA_,rfl,RA,hkA⟩ kcA⟩
  ·refine W.exit (thx ?_)
   cases H
   exact ⟨_,rfl,rfl,jnW c ⟨Gb,Lb,Ob,rfl,Rb,Kb⟩ kc⟩
 ·exact jnW c4 ⟨G1,L4,O4,rfl,R4,hk4⟩ (Cx.le.refl c4).lw
 ·rintro ex e w hx
  cases u with
  | inl q=>
   obtain ⟨rfl,c,e0,_,rfl,kc,rfl,G_,L_,Oq,rfl,Rq,Kq⟩:=hx
   cases H
   exact bkr (r0 ⟨c,G_,rfl,kA.trans kc,rfl,L_,Oq,Rq,Kq⟩)
  | inr q=>
   obtain ⟨rfl,c,e0,_,rfl,kc,rfl,G_,L_,Oq,rfl,Rq,Kq⟩:=hx
   cases H
   exact bke (n0 ⟨c,G_,rfl,kA.trans kc,rfl,L_,Oq,Rq,Kq⟩)
theorem GI {P:Program}{fn:Func}{n:Nat}{R:Ending->World->Prop}{c:Cx}{e:Nat->Value}{t b:Nat}{T:TypeId}{v:Value}(hl:(Instr.loadAt T (Q b)).run P c.w= .ok v c.w) (h:R (.returned v) c.w)
  (hr:fn.results= #[.cell t T]:=by rfl) (hv:ev n e (.tmp t)=Q b:=by kernel_rfl):BJ P fn n R [] .ret e c.w:=by
 refine GZ ?_ h;have ht:=fC ⟨n,[],none⟩ e t;rw [hv,bE] at ht;simp only [Instr.loadAt,Instr.sureAddr,fG,qM,Result.andThen] at hl;have hl':(loadVar T ⟨b,0,none⟩).run P c.w= .ok v c.w:=hl;simp [results,hr,ht,asAddr,hl']
end Go.Proofs.YtclmdpamofdoiaaGreatDoor
namespace Go.Proofs.YtclmdpamofdoiaaGreatDoor
open Go Go.Lt
set_option maxRecDepth 10000
set_option linter.unusedVariables false
attribute [local irreducible] W WL AC
open Tryz
variable {c0:Cx}{G:Gm}{F:List En}{sg:Sto}{v1:Value}
structure PS where
  F:aq
  n:Int
  bad:List Int
  st:Option Bool
def nN (SC:aZ) (most:Int) (fd:aq) (nn:Int) (bd:List Int) (ii:Int) (vw:dz):Option (PS×Bool):=
 if (nn==most)=true then
 some (⟨fd,nn,bd,some false⟩,false)
 else
 (orE (ii != nn) (some (decide (nn>(SC.Ops.length:Int))))).bind fun j=>
 if j=true then
 some (⟨fd,nn,bd,some true⟩,false)
 else
 (if (decide (nn>0))=true then
 (idx SC.Ops (w64 (nn-1))).bind fun m=>
 (fW fd m).bind fun a=>
 if (decide (a.2>0))=true then
 (app bd ([(w64 (nn-1))]:List Int)).bind fun n=>
 some (n,a.1)
 else
 some (bd,a.1)
 else
 some (bd,fd)).bind fun d=>
 (cO d.2).bind fun g=>
 (eY g).bind fun h=>
 (eZ vw h).bind fun i=>
 if (!i)=true then
 some (⟨d.2,nn,d.1,some true⟩,false)
 else
 some (⟨d.2,w64 (nn+1),d.1,none⟩,true)
def ot (SC:aZ) (most:Int) (s:PS) (ii:Int) (vw:dz):Option (PS×Bool):=match s.st with
 | none=>nN SC most s.F s.n s.bad ii vw
 | some _=>none
def ik (st:Sto) (SC:aZ) (most:Int) (fd:aq) (nn:Int) (bd:List Int):Option (Sto×Bool):=
 if (nn==most)=true then
 some (st,true)
 else
 (kV st SC).bind fun c=>
 (iw c.1 SC).bind fun b=>
 (orE (nn != (w64 ((SC.Ops.length:Int)+1))) ((cO fd).bind fun x=>
 (eY x).bind fun y=>
 (eZ c.2.1 y).bind fun z=>
 some (!z))).bind fun r=>
 (orE r (some ((b.2.length:Int) != (bd.length:Int)))).bind fun s=>
 (orE s (some (!(c.2.2.isNil==((bd.length:Int)==0))))).bind fun t=>
 if t=true then
 some (b.1,false)
 else
 (cL (σ:=Int) (τ:=(Sto×Bool) ⊕ Unit) (((b.2.length:Int)-0).toNat+1) (fun e=>
 if (decide (e<(b.2.length:Int)))=true then
 (idx b.2 e).bind fun j=>
 (idx bd e).bind fun k=>
 if (j != k)=true then
 some (.inr (.inl (b.1,false)))
 else
 some (.inl ((w64 (e+1))))
 else
 some (.inr (.inr ()))) (0)).bind fun d=>
 match d with
 | .inl d=>
 some d
 | .inr d=>
 (orE ((bd.length:Int)==0) ((idx bd 0).bind fun l=>
 (rh c.2.2).bind fun m=>
 (bT (m==l) ((idx bd 0).bind fun n=>
 (idx SC.Ops n).bind fun o=>
 (pR c.2.2).bind fun p=>
 (eA o).bind fun q=>
 some (p==q))).bind fun i=>
 some i)).bind fun h=>
 some (b.1,h)
def er (sg:Sto) (p:aZ) (most:Int):Option (Sto×Bool):=
 (dK sg).bind fun f=>
 (orE (!f.2) ((fP p).bind fun k=>
 some k)).bind fun o=>
 if o=true then
 (dK f.1).bind fun e=>
 some (e.1,e.2)
 else
 (gN p.W p.H).bind fun l=>
 (kC (ot p most) f.1 p ⟨l,0,[],none⟩).bind fun q=>match q.2.st with
 | some true=>some (q.1,false)
 | _=>ik q.1 p most q.2.F q.2.n q.2.bad
abbrev FL (f:aq) (z a b:Value):List Value:=[z,I f.P.At.Row,I f.P.At.Col,B f.P.At.Pending,B f.P.Auto,a,b,I f.Parts]
abbrev VL (v:dz) (z:Value):List Value:=[I v.Wide,I v.High,z,I v.At.Row,I v.At.Col,B v.At.Pending,B v.Auto]
def JS (k1 t f l0:Nat) (s:PS) (c:Cx) (L:List En):Prop:=∃w0 ev z a b,L= [es true (RI .i64) w0 3 ev s.bad,Eb k1 89 [w0],Eb t 3 [I s.n],Eb f 35 (FL s.F z a b),Eb l0 4 [B false]]/\OA (RI .i64) c w0 ev s.bad/\Sl am c z s.F.P.L/\Sl (RI .i32) c a s.F.Group/\Sl (RI .u8) c b s.F.Raw
theorem JS.lw {k1 t f l0:Nat}{s:PS}{c c':Cx}{L:List En}(h:JS k1 t f l0 s c L) (k:c.lw c'):JS k1 t f l0 s c' L:=by
  obtain ⟨w0,ev,z,a,b,e,h1,h2,h3,h4⟩:=h;exact ⟨w0,ev,z,a,b,e,h1.lw k,h2.lw k,h3.lw k,h4.lw k⟩
def rcs (rc:LoopState->Option Code->Loop):Option Bool->Loop
  | none=>rc .ready none
  | some b=>rc .done (some (bif b then .ret else .exit 0))
def BN (cb:Cx) (lr D:Nat) (rc:LoopState->Option Code->Loop) (k1 t f l0:Nat) (s:PS) (c:Cx) (L:List En):Prop:=JS k1 t f l0 s c L/\Rec c lr D (rcs rc s.st)/\cb.le c
theorem wk {fn:Func}{n:Nat}{c4 ct c:Cx}{lr b t:Nat}{e:Nat->Value}{x:Bool}{rl:Loop}(hr:Rec ct lr c4.w.heap.size rl) (h4:c0.le c4) (ht:c4.le ct) (k:ct.le c) (O:Own c G (Eb b 4 [B x]::F)) (R:Rel c sg G)
    (hrs:fn.results= #[.cell t 4]:=by rfl) (hv:ev n e (.tmp t)=Q b:=by kernel_rfl):BJ Tryz.prog fn n (aR c0 fun c v=>∃G_:Gm,Own c G_ F/\Rel c sg G_/\v=B x) [Go.Lt.mark c4.w.heap.size] .ret e c.w:=by
  have rd:=hr.mono k;have kd:=Cx.turn_lw (o':= .deferred none) rd.def_ rfl rfl;have Od:=Own.turn (o':= .deferred none) O rd.def_ rfl;exact GH (b:=b) rd.def_ (le1 0 underlying4 (Od.on 0 rfl)) ⟨_,c.turn c4.w.heap.size (.deferred none),rfl,rfl,h4.trans ((ht.trans k).turn (az _) rd.def_ rfl rfl),G,Od.tail,R.lw kd,rfl⟩ hrs hv
set_option maxHeartbeats 4000000 in
theorem oq (O0:Own c0 G F) (R0:Rel c0 sg G) (hG:Gl [0,1,2,3,4,5,6,7] c0) (hT:Et c0) (SC:aZ) (most:Int){r:Sto×Bool}(h2:Sl jK c0 v1 SC.Ops) (H:er sg SC most=some r):
    Calls Tryz.prog 10 #[.agg #[I SC.W,I SC.H,v1],I most] c0.w (aR c0 fun c v=>∃G_:Gm,Own c G_ (F)/\Rel c r.1 G_/\v=B r.2):=by
 unfold er at H
 refine enR func10 rfl rfl (WR.sr ?_)
 obtain ⟨a3,a4,a5,rfl⟩:=(h2).form
 refine me (bx 79 [I SC.W,I SC.H,.slice a3 a4 a5] O0) ?_
 rintro v10 c9 l9 ⟨b6,rfl,O7,m8⟩
 refine me (bx 3 [I most] O7) ?_
 rintro v15 c14 l14 ⟨b11,rfl,q9,m13⟩
 refine me (al 4 [B false] q9) ?_
 rintro v19 c18 l18 ⟨aX,rfl,r9⟩
 refine wln (WR.seq (WR.of (W.seq (bn H fun n5 h20 H=>bn H fun d_7 a6 H=>W.join (Jn c18 fun c l=>∃G_,Own c G_ ((Eb aX 4 [B false])::F)/\l= [(2,Q b6),(3,Q b11),(4,Q aX),(21,B d_7)]/\Rel c n5.1 G_) ?_ ?_))))
 ·clear H
  refine W.region (cl (mN r9 R0.m (hG.m.le (by decide)) hT.m h20) ?_)
  rintro v27 c26 l26 ⟨t5,u5,x5,rfl⟩
  refine va (B (!n5.2)) ?_
  rcases bo (!n5.2) with k1|k1
  ·obtain rfl:=orT k1 a6
   exact vb k1 (pz (va (B true) (wln (jn c26 ⟨t5,u5,rfl,x5⟩))))
  have m3:=orF k1 a6
  refine vb k1 (wn (vx (lN 79 (mm m8)) (wn (bn m3 fun o9 h30 m3=>cl (qJ u5 SC h2.m h30) ?_))))
  rintro v36 c35 l35 ⟨s9,rfl⟩
  obtain rfl:=si m3
  exact va (B o9) (wln (jn c35 ⟨t5,s9,rfl,x5.m⟩))
 rintro e_ w_ ⟨c37,g38,_,rfl,l37,rfl,G40,v5,rfl,y5⟩
 refine nrm (cn H (fun h43 H=>?_) (fun h43 H=>?_))
 ·refine sr (bn H fun f3 h44 H=>cl (mN v5 y5 (hG.m.le (by decide)) hT.m h44) ?_)
  rintro v50 c49 l49 ⟨p9,t9,R47,rfl⟩
  refine md (sC 4 0 (B f3.2) [B f3.2] 0 t9 ⟨rfl,trivial⟩) ?_
  rintro z5 l52 w5
  refine wln (W.ret (thr ?_))
  cases H
  exact GI (b:=aX) (le1 0 u_4 (w5.on 0 rfl)) ⟨_,z5,rfl,rfl,pt,p9,w5.tail,R47.m,rfl⟩
 refine W.skip (nrm (WR.sr (va (Q b6) (vx (l1 u_3 ((mm m8) 0 _ rfl)) (va (Qo b6 (0+1)) (vx (l1 u_3 ((mm m8) 1 _ rfl)) (bn H fun f h54 H=>cl (sj v5 SC.W SC.H h54) ?_)))))))
 rintro v69 c68 l68 ⟨v55,e5,v58,f5,v61,g5,v9,rfl,x4,y4,z4⟩
 obtain ⟨c70,e70,k70,O70,x4⟩:=v9.frz 0 rfl x4
 refine WL.gh e70 ?_
 obtain ⟨c71,e71,k71,O71,y4⟩:=O70.frz 1 rfl (y4.mono k70)
 refine WL.gh e71 ?_
 obtain ⟨c72,e72,k72,O72,z4⟩:=O71.frz 2 rfl (z4.mono (k70.trans k71))
 have O73:=O72.sD 4 [3]
 refine WL.gh e72 (me (al 35 [Y,I 0,I 0,B false,B false,Y,Y,I 0] O73) ?_)
 rintro v73 c73 f0 ⟨aH,rfl,w9⟩
 refine md (sA 35 (FL f v55 v58 v61) 0 w9 ⟨x4.m.one,rfl,rfl,rfl,rfl,y4.m.one,z4.m.one,rfl,trivial⟩) ?_
 rintro c84 g3 x9
 refine wln (WR.sr (me (al 3 [I 0] x9) ?_))
 rintro v88 c87 h3 ⟨aY,rfl,y9⟩
 refine md (sC 3 0 (I 0) [I 0] 0 y9 ⟨rfl,trivial⟩) ?_
 rintro c90 i3 z9
 refine wln (WR.sr (me (al 89 [Y] z9) ?_))
 rintro v94 c93 j3 ⟨aJ,rfl,O92⟩
 have O93:=O92.addHole (e:=es true (RI .i64) (Y) 3 [] ([]:List Int)) rfl
 refine wln (WR.seq (WR.sr (vx (lN 79 (mm m8)) (cl (uc O93 SC h2.m rfl) ?_))))
 rintro v103 c102 q0 ⟨b96,O99,rfl,m97⟩
 refine wln (WR.block (WR.range rfl (fun args w=>by kernel_rfl) fun fn rc hrc=>?_))
 obtain ⟨c5,e5_,b5,r5⟩:=Cx.loop c102 (rc .ready none)
 rw [<-e5_]
 have k5:=b5.le
 obtain ⟨q,Hq,H⟩:=bs H
 refine (wG (J:=BN c102 (c102.w.heap.size+1) c102.w.heap.size rc aJ aY aH aX) (fun s c c' L k h=>⟨h.1.lw k.lw,h.2.1.mono k,h.2.2.trans k⟩) (s0:=⟨f,0,[],none⟩)
  (L0:=[es true (RI .i64) (Y) 3 [] ([]:List Int),Eb aJ 89 [Y],Eb aY 3 [I 0],Eb aH 35 (FL f v55 v58 v61),Eb aX 4 [B false]])
  (c102.w.heap.size+1) ?_ (fun j u h=>(m97 j u h).mono k5) h2.m (hG.m.le (by decide)) (O99.keep b5) y5.m ⟨⟨_,_,_,_,_,rfl,OA.nil (aN _),x4.m,y4.m,z4.m⟩,r5,k5⟩ Hq).mono ?_
 ·clear H Hq
  rintro s ii vw z c G_ F L vv hz O ⟨⟨w0,v0,za,zb,zc,rfl,T,a0,b0,d0⟩,hr,hcb⟩ hS
  obtain ⟨fd,nn,bd,st⟩:=s
  cases st with
  | some _=>cases hz
  | none=>
  have H:nN SC most fd nn bd ii vw=some z:=hz
  clear hz
  have hr1:Rec c (c102.w.heap.size+1) c102.w.heap.size (rc .ready none):=hr
  have O':Own c G_ (es true (RI .i64) w0 3 v0 bd::Eb aJ 89 [w0]::Eb aY 3 [I nn]::Eb aH 35 (FL fd za zb zc)::Eb aX 4 [B false]::F):=O
  refine CY hrc hr1.rc rfl (Iz _ _ _ _ _ 30 31 _ _) ?_
  refine sr (va (I ii) (wln (W.region (me (al 45 [I 0,I 0,Y,I 0,I 0,B false,B false] O') ?_))))
  rintro v160 c7 k7 ⟨x,rfl,k6⟩
  refine md (sA 45 (VL vw vv) 0 k6 ⟨rfl,rfl,hS.one,rfl,rfl,rfl,rfl,trivial⟩) ?_
  intro c8 k8 O8
  have r8:=hr1.mono (k7.trans k8)
  refine WL.nil (nrm ⟨r8.rc,?_⟩)
  have k9:=Cx.turn_lw (o':= .loop (rc .busy none)) r8.rc rfl rfl
  have S:=Own.turn (o':= .loop (rc .busy none)) O8 r8.rc rfl
  have rb:=r8.turn (rc .busy none)
  have hb:=(hcb.trans (k7.trans k8)).turn (o':= .loop (rc .busy none)) (wR _) r8.rc rfl rfl
  have kc:c.lw (c8.turn (c102.w.heap.size+1) (.loop (rc .busy none))):=(k7.trans k8).lw.trans k9
  have hSv:=hS.lw kc
  have T:=T.lw kc
  have a0:=a0.lw kc
  have b0:=b0.lw kc
  have d0:=d0.lw kc
  show W _ _ _ _ _ (c8.turn (c102.w.heap.size+1) (.loop (rc .busy none))).w
  generalize c8.turn (c102.w.heap.size+1) (.loop (rc .busy none))=o2 at S rb hb hSv T a0 b0 d0 kc
  have fin:∀(cD:Cx) (s':PS){L':List En}{bb:Bool},Own cD G_ (L'++F)->JS aJ aY aH aX s' cD L'->o2.le cD->cD.w.heap[c102.w.heap.size+1]? = some (.loop (rc .busy none))/\∃c',cD.w.putObj (c102.w.heap.size+1) (.loop (rcs rc s'.st))=c'.w/\c.lw c'/\Ending.returned (B bb)=Ending.returned (B bb)/\∃L',Own c' G_ (L'++F)/\BN c102 (c102.w.heap.size+1) c102.w.heap.size rc aJ aY aH aX s' c' L':=by
   intro cD s' L' bb O K kD
   have rD:=rb.mono kD
   have kt:=Cx.turn_lw (o':= .loop (rcs rc s'.st)) rD.rc rfl rfl
   exact ⟨rD.rc,cD.turn _ (.loop (rcs rc s'.st)),rfl,kc.trans (kD.lw.trans kt),rfl,L',Own.turn O rD.rc rfl,K.lw kt,rD.turn _,(hb.trans kD).turn (wR _) rD.rc rfl rfl⟩
  unfold nN at H
  refine W.block (W.seq (sr (vx (le1 0 u_3 (S.on 3 rfl)) (vx (l1 u_3 ((mm m13) 0 _ rfl)) (va (B (nn==most)) (wln (cn H (fun x7 H=>?_) (fun x7 H=>?_))))))))
  ·refine W.exit (thx (bko rfl ?_))
   cases H
   exact fin o2 ⟨fd,nn,bd,some false⟩ (S.sD 6 [1,2,3,4,5]) ⟨_,_,_,_,_,rfl,T,a0,b0,d0⟩ (Cx.le.refl _)
  refine W.skip (nrm (W.seq (W.seq (bn H fun n7 t4 H=>W.join (Jn o2 fun c l=>Own c G_ ((Eb x 45 (VL vw vv))::es true (RI .i64) w0 3 v0 bd::(Eb aJ 89 [w0])::(Eb aY 3 [I nn])::(Eb aH 35 (FL fd za zb zc))::(Eb aX 4 [B false])::F)/\l= [(2,Q b6),(4,Q aX),(5,Q aH),(6,Q aY),(7,Q aJ),(9,Q x),(44,B n7)]) ?_ ?_))))
  ·clear H
   refine W.region (va (I ii) (vx (le1 0 u_3 (S.on 3 rfl)) (va (B (ii != nn)) ?_)))
   rcases bo (ii != nn) with e0|e0
   ·obtain rfl:=orT e0 t4
    exact vb e0 (pz (pz (ps (va (B true) (wln (jn o2 ⟨S,rfl⟩))))))
   have c6:=orF e0 t4
   refine vb e0 (wn (vx (le1 0 u_3 (S.on 3 rfl)) (wa (Qo b6 (0+2)) (wn (vx (l1 nK ((mm m8) 2 _ rfl)) (wn (vx (ln 3 nK h2.m) (wa (B (decide (nn>(SC.Ops.length:Int)))) ?_))))))))
   cases c6
   exact va (B (decide (nn>(SC.Ops.length:Int)))) (wln (jn o2 ⟨S,rfl⟩))
  rintro e_ w_ ⟨p2,g172,_,rfl,v8,rfl,h0,rfl⟩
  refine nrm (cn H (fun y7 H=>?_) (fun y7 H=>?_))
  ·refine sr (md (sC 4 0 (B false) [B false] 5 h0 ⟨rfl,trivial⟩) ?_)
   rintro o4 l179 p3
   refine wln (W.ret (thr (bkr ?_)))
   cases H
   exact fin o4 ⟨fd,nn,bd,some true⟩ (p3.sD 6 [1,2,3,4,5]) ⟨_,_,_,_,_,rfl,T.m,a0.m,b0.m,d0.m⟩ pt
  refine W.skip (nrm (bn H fun d g u=>W.seqJ (Jn p2 fun c l=>∃w0 e3 z A D,Own c G_ (es true (RI .i64) w0 3 e3 d.1::(Eb x 45 (VL vw vv))::(Eb aJ 89 [w0])::(Eb aY 3 [I nn])::(Eb aH 35 (FL d.2 z A D))::(Eb aX 4 [B false])::F)/\l= [(4,Q aX),(5,Q aH),(6,Q aY),(9,Q x)]/\OA (RI .i64) c w0 e3 d.1/\Sl am c z d.2.P.L/\Sl (RI .i32) c A d.2.Group/\Sl (RI .u8) c D d.2.Raw) ?_ ?_))
  ·refine sr (vx (le1 0 u_3 (h0.on 3 rfl)) (va (B (decide (nn>0))) (wln (cn g (fun z7 g=>?_) (fun z7 g=>?_)))))
   ·refine W.seq (bn g fun o5 u4 g=>bn g fun b v4 g=>W.join (Jn p2 fun c l=>∃x0 y0 z0 n2,Own c G_ ((Eb n2 35 (FL b.1 x0 y0 z0))::(Eb x 45 (VL vw vv))::es true (RI .i64) w0 3 v0 bd::(Eb aJ 89 [w0])::(Eb aY 3 [I nn])::(Eb aH 35 (FL fd za zb zc))::(Eb aX 4 [B false])::F)/\l= [(4,Q aX),(5,Q aH),(6,Q aY),(7,Q aJ),(9,Q x),(10,Q n2),(11,I b.2)]/\Sl am c x0 b.1.P.L/\Sl (RI .i32) c y0 b.1.Group/\Sl (RI .u8) c z0 b.1.Raw) ?_ ?_)
    ·clear g
     refine rD [] (Kp G0 [(Eb aH 35 (FL fd za zb zc)),(Eb aY 3 [I nn])]) h0 ?_
     intro c7 w8 i0
     have c5:Kp G0 _ c7:=(Kp.cons (i0.on 4 rfl) (Kp.cons (i0.on 3 rfl) Kp.nil0))
     refine tkx 0 c5 (fun c' g0 hk=>leN 35 0 (FL fd za zb zc) (hk.on 0 rfl)) (ta 1 (Qo b6 (0+2)) (tx 2 (fun c' g0=>l1 nK ((mm m8) 2 _ rfl)) (tkx 3 c5 (fun c' g0 hk=>le1 0 u_3 (hk.on 1 rfl)) (ta 4 (I (w64 (nn-1))) ?_))))
     obtain ⟨l_198,a8,x8⟩:=Sl.at (h2.m) (aU u4)
     obtain ⟨v201,rfl,w4⟩:=a8
     refine tx 5 (fun c' g0=>ix nK h2.m u4) (tx 6 (fun c' g0=>lN 38 (mm x8)) (mn2 7 11 ?_ ?_))
     ·refine gc 7 (nX i0 fd o5 a0.m b0.m d0.m w4.m v4) ?_
      rintro v214 d7 l213 ⟨h5,i5,j5,m1,rfl,s2,t2,u2⟩
      have y8:Kp G0 _ d7:=(Kp.cons (m1.on 4 rfl) (Kp.cons (m1.on 3 rfl) Kp.nil0))
      refine ⟨.inr y8,ta 8 (.tuple #[.agg #[h5,I b.1.P.At.Row,I b.1.P.At.Col,B b.1.P.At.Pending,B b.1.P.Auto,i5,j5,I b.1.Parts],I b.2]) (ta 9 (.agg #[h5,I b.1.P.At.Row,I b.1.P.At.Col,B b.1.P.At.Pending,B b.1.P.Auto,i5,j5,I b.1.Parts]) (ta 10 (I b.2) (o1 11 (gm 11 (al 35 [Y,I 0,I 0,B false,B false,Y,Y,I 0] m1) ?_))))⟩
      rintro v219 e7 c3 ⟨a7,rfl,n1⟩
      have z8:Kp G0 _ e7:=(Kp.cons (n1.on 5 rfl) (Kp.cons (n1.on 4 rfl) Kp.nil0))
      refine ⟨.inr z8,?_⟩
      obtain ⟨u3,v3,w3,rfl⟩:=((s2.mono c3)).form
      obtain ⟨x3,y3,z3,rfl⟩:=((t2.mono c3)).form
      obtain ⟨b4,c4,d4,rfl⟩:=((u2.mono c3)).form
      refine o1 12 (gD 12 (sA 35 (FL b.1 (.slice u3 v3 w3) (.slice x3 y3 z3) (.slice b4 c4 d4)) 0 n1 ⟨s2.m.one,rfl,rfl,rfl,rfl,t2.m.one,u2.m.one,rfl,trivial⟩) ?_)
      rintro p4 l231 q1
      have a9:Kp G0 _ p4:=(Kp.cons (q1.on 5 rfl) (Kp.cons (q1.on 4 rfl) Kp.nil0))
      exact ⟨.inr a9,ta 13 (I b.2) (dn (nrm (jn p4 ⟨(.slice u3 v3 w3),(.slice x3 y3 z3),(.slice b4 c4 d4),a7,q1,rfl,s2.m,t2.m,u2.m⟩)))⟩
     refine gm 11 (al 35 [Y,I 0,I 0,B false,B false,Y,Y,I 0] i0) ?_
     rintro v236 f7 l235 ⟨b7,rfl,s1⟩
     have b9:Kp G0 _ f7:=(Kp.cons (s1.on 5 rfl) (Kp.cons (s1.on 4 rfl) Kp.nil0))
     refine ⟨.inr b9,o1 7 (gc 7 (nX s1 fd o5 a0.m b0.m d0.m w4.m v4) ?_)⟩
     rintro v249 g7 l248 ⟨k5,l5,m5,t1,rfl,v2,w2,x2⟩
     have d9:Kp G0 _ g7:=(Kp.cons (t1.on 5 rfl) (Kp.cons (t1.on 4 rfl) Kp.nil0))
     refine ⟨.inr d9,ta 8 (.tuple #[.agg #[k5,I b.1.P.At.Row,I b.1.P.At.Col,B b.1.P.At.Pending,B b.1.P.Auto,l5,m5,I b.1.Parts],I b.2]) (ta 9 (.agg #[k5,I b.1.P.At.Row,I b.1.P.At.Col,B b.1.P.At.Pending,B b.1.P.Auto,l5,m5,I b.1.Parts]) (ta 10 (I b.2) ?_))⟩
     obtain ⟨e4,f4,g4,rfl⟩:=(v2).form
     obtain ⟨h4,i4,j4,rfl⟩:=(w2).form
     obtain ⟨k4,l4,m4,rfl⟩:=(x2).form
     refine o1 12 (gD 12 (sA 35 (FL b.1 (.slice e4 f4 g4) (.slice h4 i4 j4) (.slice k4 l4 m4)) 0 t1 ⟨v2.one,rfl,rfl,rfl,rfl,w2.one,x2.one,rfl,trivial⟩) ?_)
     rintro q4 l261 u1
     have e9:Kp G0 _ q4:=(Kp.cons (u1.on 5 rfl) (Kp.cons (u1.on 4 rfl) Kp.nil0))
     exact ⟨.inr e9,ta 13 (I b.2) (dn (nrm (jn q4 ⟨(.slice e4 f4 g4),(.slice h4 i4 j4),(.slice k4 l4 m4),b7,u1,rfl,v2.m,w2.m,x2.m⟩)))⟩
    rintro e_ w_ ⟨c263,g264,_,rfl,l263,rfl,x0,y0,z0,n2,q3,rfl,l0,m0,o0⟩
    refine nrm (sr (vx (leN 35 0 (FL b.1 x0 y0 z0) (q3.on 0 rfl)) ?_))
    obtain ⟨z1,b2,c2,rfl⟩:=(l0).form
    obtain ⟨d2,e2,f2,rfl⟩:=(m0).form
    obtain ⟨g2,i2,j2,rfl⟩:=(o0).form
    refine md (sA 35 (FL b.1 (.slice z1 b2 c2) (.slice d2 e2 f2) (.slice g2 i2 j2)) 5 q3 ⟨l0.one,rfl,rfl,rfl,rfl,m0.one,o0.one,rfl,trivial⟩) ?_
    rintro h7 l282 j0
    refine wln (sr (va (I b.2) (va (B (decide (b.2>0))) (wln (cn g (fun b8 g=>?_) (fun b8 g=>?_))))))
    ·refine W.region (vx (le1 0 lm (j0.on 3 rfl)) (vx (le1 0 u_3 (j0.on 4 rfl)) (va (I (w64 (nn-1))) (me (sl (RI .i64) 3 [[I (w64 (nn-1))]] ([(w64 (nn-1))]:List Int) j0 ⟨rfl,trivial⟩) ?_))))
     rintro v288 c287 l287 ⟨u285,o6,c8⟩
     obtain ⟨c291,e8,l291,p6,d8⟩:=o6.frz 0 rfl c8
     refine WL.gh e8 (bn g fun x_97 f8 g=>me (ap (RI .i64) (I 0) 8 89 3 p6 T.m d8 f8 lm) ?_)
     rintro v298 c297 l297 ⟨i9,q6,y2⟩
     obtain ⟨k2,l2,m2,rfl⟩:=(y2).form
     refine md (sC 89 0 (.slice k2 l2 m2) [.slice k2 l2 m2] 4 q6 ⟨(y2).one,trivial⟩) ?_
     rintro i7 l303 r6
     refine wln ?_
     cases g
     have s6:=r6.sD 8 [3,2,4,5,6,7]
     exact jn i7 ⟨(.slice k2 l2 m2),i9,(.slice z1 b2 c2),(.slice d2 e2 f2),(.slice g2 i2 j2),s6,rfl,y2.m,l0.m,m0.m,o0.m⟩
    refine W.skip (nrm ?_)
    cases g
    have t6:=j0.sD 7 [2,1,3,4,5,6]
    exact jn h7 ⟨w0,v0,(.slice z1 b2 c2),(.slice d2 e2 f2),(.slice g2 i2 j2),t6,rfl,T.m,l0.m,m0.m,o0.m⟩
   refine W.skip (nrm ?_)
   cases g
   have u6:=h0.sD 6 [1,0,2,3,4,5]
   exact jn p2 ⟨w0,v0,za,zb,zc,u6,rfl,T.m,a0.m,b0.m,d0.m⟩
  rintro e_ w_ ⟨c307,g308,_,rfl,l307,rfl,w0,e3,z,A,D,v6,rfl,h310,g8,h8,i8⟩
  refine W.seq (W.seq (rD [] (Kp G0 [(Eb x 45 (VL vw vv)),(Eb aH 35 (FL d.2 z A D))]) v6 ?_))
  intro j7 l317 w1
  have d5:Kp G0 _ j7:=(Kp.cons (w1.on 1 rfl) (Kp.cons (w1.on 4 rfl) Kp.nil0))
  refine tkx 0 d5 (fun c' g0 hk=>leN 45 0 (VL vw vv) (hk.on 0 rfl)) (tkx 1 d5 (fun c' g0 hk=>leN 35 0 (FL d.2 z A D) (hk.on 1 rfl)) (bn u fun q5 j8 u=>o1 2 (gc 2 (jr w1 d.2 g8.m h8.m i8.m j8) ?_)))
  rintro v328 k7 l327 ⟨v321,x1,rfl,k8⟩
  have f9:Kp G0 _ k7:=(Kp.cons (x1.on 1 rfl) (Kp.cons (x1.on 4 rfl) Kp.nil0))
  refine ⟨.inr f9,bn u fun r5 l8 u=>o1 3 (gc 3 (nu x1 q5 k8 l8) ?_)⟩
  rintro v338 l7 l337 ⟨v331,y1,rfl,n8⟩
  have g9:Kp G0 _ l7:=(Kp.cons (y1.on 1 rfl) (Kp.cons (y1.on 4 rfl) Kp.nil0))
  refine ⟨.inr g9,bn u fun s5 o8 u=>o1 4 (gc 4 (nv y1 vw r5 hSv.m n8 o8) ?_)⟩
  rintro v346 m7 l345 ⟨Z,rfl⟩
  have h9:Kp G0 _ m7:=(Kp.cons (Z.on 1 rfl) (Kp.cons (Z.on 4 rfl) Kp.nil0))
  refine ⟨.inr h9,ta 5 (B (!s5)) (dn (nrm (cn u (fun p8 u=>?_) (fun p8 u=>?_))))⟩
  ·refine sr (md (sC 4 0 (B false) [B false] 5 Z ⟨rfl,trivial⟩) ?_)
   rintro r4 l350 s3
   refine wln (W.ret (thr (bkr ?_)))
   cases u
   exact fin r4 ⟨d.2,nn,d.1,some true⟩ (s3.sD 6 [0,2,3,4,5]) ⟨_,_,_,_,_,rfl,h310.m,g8.m,h8.m,i8.m⟩ pt
  refine W.skip (nrm (W.region (vx (le1 0 u_3 (Z.on 3 rfl)) (va (I (w64 (nn+1))) (md (sC 3 0 (I (w64 (nn+1))) [I (w64 (nn+1))] 3 Z ⟨rfl,trivial⟩) ?_)))))
  rintro c353 l353 x6
  refine WL.nil (bkn ?_)
  cases u
  exact fin c353 ⟨d.2,w64 (nn+1),d.1,none⟩ (x6.sD 6 [0,2,3,4,5]) ⟨_,_,_,_,_,rfl,h310.m,g8.m,h8.m,i8.m⟩ pt
 ·rintro ex w' ⟨c7,G7,rfl,k7,rfl,L7,O7,R7,⟨w0,x,za,zb,zc,rfl,u,f3,g3,h3⟩,hr,hcb⟩
  obtain ⟨st,fd,nn,bd,ss⟩:=q
  refine ⟨_,rfl,?_⟩
  have O7:Own c7 G7 (es true (RI .i64) w0 3 x bd::Eb aJ 89 [w0]::Eb aY 3 [I nn]::Eb aH 35 (FL fd za zb zc)::Eb aX 4 [B false]::F):=O7
  rcases ss with _|_|_
  all_goals first
  | (have hr1:Rec c7 (c102.w.heap.size+1) c102.w.heap.size (rc .done (some .ret)):=hr
     have kt:=Cx.turn_lw (o':= .loop (rc .exhausted (some .ret))) hr1.rc rfl rfl
     have Ot:=Own.turn (o':= .loop (rc .exhausted (some .ret))) O7 hr1.rc rfl
     have rt:=hr1.turn (rc .exhausted (some .ret))
     have hct:=hcb.turn (o':= .loop (rc .exhausted (some .ret))) (wR _) hr1.rc rfl rfl
     refine .inr ⟨.ret,hr1.rc,WR.of (W.ret (bkr (thr ?_)))⟩
     cases H
     exact wk rt pt hct (Cx.le.refl _) (Ot.sD 5 [4]) (R7.lw kt))
  | (have hr1:Rec c7 (c102.w.heap.size+1) c102.w.heap.size (rc .ready none):=hr
     have H:ik st SC most fd nn bd=some r:=H
     have kt:=Cx.turn_lw (o':= .loop (rc .exhausted none)) hr1.rc rfl rfl
     have x2:=Own.turn (o':= .loop (rc .exhausted none)) O7 hr1.rc rfl
     have rt:=hr1.turn (rc .exhausted none)
     have hct:=hcb.turn (o':= .loop (rc .exhausted none)) (wR _) hr1.rc rfl rfl
     refine .inl ⟨hr1.rc,bkn ?_⟩
     show oS _ _ _ _ (c7.turn (c102.w.heap.size+1) (.loop (rc .exhausted none))).w
     have s4:=R7.lw kt
     have u:=u.lw kt
     have f3:=f3.lw kt
     have g3:=g3.lw kt
     have h3:=h3.lw kt
     generalize c7.turn (c102.w.heap.size+1) (.loop (rc .exhausted none))=ct at kt x2 rt hct s4 u f3 g3 h3)
  | (have hr1:Rec c7 (c102.w.heap.size+1) c102.w.heap.size (rc .done (some (.exit 0))):=hr
     have H:ik st SC most fd nn bd=some r:=H
     have kt:=Cx.turn_lw (o':= .loop (rc .exhausted (some (.exit 0)))) hr1.rc rfl rfl
     have x2:=Own.turn (o':= .loop (rc .exhausted (some (.exit 0)))) O7 hr1.rc rfl
     have rt:=hr1.turn (rc .exhausted (some (.exit 0)))
     have hct:=hcb.turn (o':= .loop (rc .exhausted (some (.exit 0)))) (wR _) hr1.rc rfl rfl
     refine .inr ⟨.exit 0,hr1.rc,WR.of (W.exit (bke ?_))⟩
     show oS _ _ _ _ (c7.turn (c102.w.heap.size+1) (.loop (rc .exhausted (some (.exit 0))))).w
     have s4:=R7.lw kt
     have u:=u.lw kt
     have f3:=f3.lw kt
     have g3:=g3.lw kt
     have h3:=h3.lw kt
     generalize c7.turn (c102.w.heap.size+1) (.loop (rc .exhausted (some (.exit 0))))=ct at kt x2 rt hct s4 u f3 g3 h3)
  all_goals (unfold ik at H; clear O7 R7 hr hcb)
  all_goals (
   refine nrm (WR.of (W.seq (sr (vx (le1 0 u_3 (x2.on 2 rfl)) (vx (l1 u_3 ((mm m13) 0 _ rfl)) (va (B (nn==most)) (wln (cn H (fun e8 H=>?_) (fun e8 H=>?_)))))))))
   ·refine sr (md (sC 4 0 (B true) [B true] 4 x2 ⟨rfl,trivial⟩) ?_)
    rintro t4 l159 m4
    refine wln (W.ret (thr ?_))
    cases H
    exact wk rt pt hct pt (m4.sD 5 [4]) s4.m
   refine W.skip (nrm (sr (vx (lN 79 (mm m8)) (bn H fun a f8 H=>cl (ud x2 s4 (hG.m.le (by decide)) SC h2.m f8) ?_))))
   rintro v172 c171 p2 ⟨u5,t2,d0,G167,v6,g7,rfl,g2,i3⟩
   refine va (.tuple #[.agg #[I a.2.1.Wide,I a.2.1.High,u5,I a.2.1.At.Row,I a.2.1.At.Col,B a.2.1.At.Pending,B a.2.1.Auto],d0]) (va (.agg #[I a.2.1.Wide,I a.2.1.High,u5,I a.2.1.At.Row,I a.2.1.At.Col,B a.2.1.At.Pending,B a.2.1.Auto]) (va (d0) (me (al 45 [I 0,I 0,Y,I 0,I 0,B false,B false] v6) ?_)))
   rintro v176 c175 q0 ⟨X,rfl,w6⟩
   obtain ⟨p,q,s,rfl⟩:=((g2.mono q0)).form
   refine md (sA 45 (VL a.2.1 (.slice p q s)) 0 w6 ⟨rfl,rfl,g2.m.one,rfl,rfl,rfl,rfl,trivial⟩) ?_
   rintro c181 x0 x6
   refine va (d0) (wln (sr (vx (lN 79 (mm m8)) (bn H fun Z g8 H=>cl (ru x6 g7.m (hG.m.le (by decide)) SC h2.m g8) ?_))))
   rintro U i7 y0 ⟨_,z0,j0,y6,e3,rfl,e1⟩
   refine va (U) (wln (W.seq (W.seq (bn H fun d_67 d5 H=>bn H fun d_75 j3 H=>bn H fun v7 i2 H=>W.join (Jn i7 fun c l=>Own c j0 (es true (RI .i64) U 3 z0 Z.2::(Eb X 45 (VL a.2.1 (.slice p q s)))::es false am (.slice p q s) 48 t2 a.2.1.Lines::es true (RI .i64) w0 3 x bd::(Eb aJ 89 [w0])::(Eb aY 3 [I nn])::(Eb aH 35 (FL fd za zb zc))::(Eb aX 4 [B false])::F)/\l= [(2,Q b6),(4,Q aX),(7,Q aJ),(13,d0),(14,U),(112,B v7)]) ?_ ?_))))
   ·clear H
    refine rD [] (Kp G0 [(Eb aY 3 [I nn]),(Eb X 45 (VL a.2.1 (.slice p q s))),(Eb aH 35 (FL fd za zb zc)),(Eb aJ 89 [w0])]) y6 ?_
    intro j7 q5 v0
    have q3:Kp G0 _ j7:=(Kp.cons (v0.on 5 rfl) (Kp.cons (v0.on 1 rfl) (Kp.cons (v0.on 6 rfl) (Kp.cons (v0.on 4 rfl) Kp.nil0))))
    refine tkx 0 q3 (fun n i T=>le1 0 u_3 (T.on 0 rfl)) (ta 1 (Qo b6 (0+2)) (tx 2 (fun n i=>l1 nK ((mm m8) 2 _ rfl)) (tx 3 (fun n i=>ln 3 nK h2.m) (ta 4 (I (w64 ((SC.Ops.length:Int)+1))) (ta 5 (B (nn != (w64 ((SC.Ops.length:Int)+1)))) ?_)))))
    rcases bo (nn != (w64 ((SC.Ops.length:Int)+1))) with f1|f1
    ·obtain rfl:=orT f1 d5
     refine AC.takeb 6 f1 rfl (by kernel_rfl) (by kernel_rfl) (fun n i=>(by kernel_rfl)) (tp 7 (tp 8 (tp 9 (tp 10 (tp 11 (tp 12 (ta 13 (B true) ?_)))))))
     have e5:true=true:=rfl
     obtain rfl:=orT e5 j3
     refine AC.takeb 14 e5 rfl (by kernel_rfl) (by kernel_rfl) (fun n i=>(by kernel_rfl)) (tp 15 (tp 16 (tp 17 (tp 18 (tp 19 (ta 20 (B true) ?_))))))
     have g5:true=true:=rfl
     obtain rfl:=orT g5 i2
     refine AC.takeb 21 g5 rfl (by kernel_rfl) (by kernel_rfl) (fun n i=>(by kernel_rfl)) (tp 22 (tp 23 (tp 24 (tp 25 (tp 26 (tp 27 (ta 28 (B true) (dn (nrm ?_)))))))))
     obtain ⟨k7,h8,l203,z6,h202⟩:=v0.frz 2 rfl (g2.mono (q0.trans (x0.trans (y0.trans q5))))
     exact ⟨k7,_,_,h8.symm,pt,us,z6,rfl⟩
    have k0:=orF f1 d5
    refine bn k0 fun z9 i8 k0=>bn k0 fun x_72 j8 k0=>bn k0 fun x3 k8 k0=>AC.takeb 6 f1 rfl (by kernel_rfl) (by kernel_rfl) (fun n i=>(by kernel_rfl)) (tkx 7 q3 (fun n i T=>leN 45 0 (VL a.2.1 (.slice p q s)) (T.on 1 rfl)) (tkx 8 q3 (fun n i T=>leN 35 0 (FL fd za zb zc) (T.on 2 rfl)) (o1 9 (gc 9 (jr v0 fd f3.m g3.m h3.m i8) ?_))))
    rintro v216 l7 d9 ⟨v209,a1,rfl,l8⟩
    have m9:Kp G0 _ l7:=(Kp.cons (a1.on 5 rfl) (Kp.cons (a1.on 1 rfl) (Kp.cons (a1.on 6 rfl) (Kp.cons (a1.on 4 rfl) Kp.nil0))))
    refine ⟨.inr m9,o1 10 (gc 10 (nu a1 z9 l8 j8) ?_)⟩
    rintro v225 m7 e9 ⟨v218,b1,rfl,n8⟩
    have n9:Kp G0 _ m7:=(Kp.cons (b1.on 5 rfl) (Kp.cons (b1.on 1 rfl) (Kp.cons (b1.on 6 rfl) (Kp.cons (b1.on 4 rfl) Kp.nil0))))
    refine ⟨.inr n9,?_⟩
    obtain ⟨n7,p8,f9,c1,o8⟩:=b1.frz 2 rfl (g2.mono (q0.trans (x0.trans (y0.trans (q5.trans (d9.trans e9))))))
    have o9:Kp G0 _ n7:=(Kp.cons (c1.on 5 rfl) (Kp.cons (c1.on 1 rfl) (Kp.cons (c1.on 6 rfl) (Kp.cons (c1.on 4 rfl) Kp.nil0))))
    refine AC.gh p8 f9 (fun _=>o9) (o1 11 (gc 11 (nv c1 a.2.1 x_72 o8 n8.m k8) ?_))
    rintro v237 e2 l236 ⟨l0,rfl⟩
    have s3:Kp G0 _ e2:=(Kp.cons (l0.on 5 rfl) (Kp.cons (l0.on 1 rfl) (Kp.cons (l0.on 6 rfl) (Kp.cons (l0.on 4 rfl) Kp.nil0))))
    refine ⟨.inr s3,ta 12 (B (!x3)) ?_⟩
    cases k0
    refine ta 13 (B (!x3)) ?_
    rcases bo (!x3) with g1|g1
    ·obtain rfl:=orT g1 j3
     refine AC.takeb 14 g1 rfl (by kernel_rfl) (by kernel_rfl) (fun n i=>(by kernel_rfl)) (tp 15 (tp 16 (tp 17 (tp 18 (tp 19 (ta 20 (B true) ?_))))))
     have h5:true=true:=rfl
     obtain rfl:=orT h5 i2
     exact AC.takeb 21 h5 rfl (by kernel_rfl) (by kernel_rfl) (fun n i=>(by kernel_rfl)) (tp 22 (tp 23 (tp 24 (tp 25 (tp 26 (tp 27 (ta 28 (B true) (dn (nrm (jn e2 ⟨l0,rfl⟩))))))))))
    have m6:=orF g1 j3
    refine AC.takeb 14 g1 rfl (by kernel_rfl) (by kernel_rfl) (fun n i=>(by kernel_rfl)) (ta 15 (U) (tx 16 (fun n i=>lnO 3 lm e1.m) (tkx 17 s3 (fun n i T=>le1 0 lm (T.on 3 rfl)) (tx 18 (fun n i=>lnO 3 lm u.m) (ta 19 (B ((Z.2.length:Int) != (bd.length:Int))) ?_)))))
    cases m6
    refine ta 20 (B ((Z.2.length:Int) != (bd.length:Int))) ?_
    rcases bo ((Z.2.length:Int) != (bd.length:Int)) with h1|h1
    ·obtain rfl:=orT h1 i2
     exact AC.takeb 21 h1 rfl (by kernel_rfl) (by kernel_rfl) (fun n i=>(by kernel_rfl)) (tp 22 (tp 23 (tp 24 (tp 25 (tp 26 (tp 27 (ta 28 (B true) (dn (nrm (jn e2 ⟨l0,rfl⟩))))))))))
    have n6:=orF h1 i2
    refine AC.takeb 21 h1 rfl (by kernel_rfl) (by kernel_rfl) (fun n i=>(by kernel_rfl)) (ta 22 (d0) (AC.take 23 (B a.2.2.isNil) rfl (by kernel_rfl) (by kernel_rfl) (fun n i=>(by rcases i3.m.cs with ⟨f5,k5⟩|⟨b_,f5,k5⟩|⟨b_,f5,k5⟩ <;> (subst f5; rw [k5]; kernel_rfl))) (tkx 24 s3 (fun n i T=>le1 0 lm (T.on 3 rfl)) (tx 25 (fun n i=>lnO 3 lm u.m) (ta 26 (B ((bd.length:Int)==0)) (ta 27 (B (!(a.2.2.isNil==((bd.length:Int)==0)))) ?_))))))
    cases n6
    exact ta 28 (B (!(a.2.2.isNil==((bd.length:Int)==0)))) (dn (nrm (jn e2 ⟨l0,rfl⟩)))
   rintro e_ w_ ⟨f2,g245,_,rfl,m1,rfl,n4,rfl⟩
   refine nrm (cn H (fun q8 H=>?_) (fun q8 H=>?_))
   ·refine sr (md (sC 4 0 (B false) [B false] 7 n4 ⟨rfl,trivial⟩) ?_)
    rintro u4 l252 o4
    refine wln (W.ret (thr ?_))
    cases H
    exact wk rt pt hct pt (o4.sD 8 [7]) e3.m
   refine W.skip (nrm (W.seq (sr (va (I 0) (wln (W.block (bn H fun s2 i5 u0=>lp i5 (fun b0=>Jn f2 fun c l=>Own c j0 (es true (RI .i64) U 3 z0 Z.2::(Eb X 45 (VL a.2.1 (.slice p q s)))::es false am (.slice p q s) 48 t2 a.2.1.Lines::es true (RI .i64) w0 3 x bd::(Eb aJ 89 [w0])::(Eb aY 3 [I nn])::(Eb aH 35 (FL fd za zb zc))::(Eb aX 4 [B false])::F)/\l= [(2,Q b6),(4,Q aX),(7,Q aJ),(13,d0),(14,U),(15,I b0)]) (fun t=>match t with|.inl x_=>(fun j6 ex e w=>ex= .ret/\(Jn f2 fun c l=>∃G_,Own c G_ ((Eb aX 4 [B j6.2])::F)/\l= [(4,Q aX)]/\Rel c j6.1 G_) e w) x_|.inr x_=>(fun o_95_ ex e w=>ex= .exit 2/\(Jn f2 fun c l=>Own c j0 (es true (RI .i64) U 3 z0 Z.2::(Eb X 45 (VL a.2.1 (.slice p q s)))::es false am (.slice p q s) 48 t2 a.2.1.Lines::es true (RI .i64) w0 3 x bd::(Eb aJ 89 [w0])::(Eb aY 3 [I nn])::(Eb aH 35 (FL fd za zb zc))::(Eb aX 4 [B false])::F)/\l= [(2,Q b6),(4,Q aX),(7,Q aJ),(13,d0)]) e w) x_) ?_ ?_ ?_)))))))
   ·clear u0 i5
    intro b0 xx_ ee_ ww_ H
    revert ee_ ww_
    rintro e_ w_ ⟨o7,g257,_,rfl,r5,rfl,p4,rfl⟩
    refine W.seq (sr (va (I b0) (va (U) (vx (lnO 3 lm e1.m) (va (B (decide (b0<(Z.2.length:Int)))) (wln (cn H (fun r8 H=>?_) (fun r8 H=>?_))))))))
    ·refine W.skip (nrm (W.seq (W.block (W.seq (rD [] (Kp G0 [es true (RI .i64) U 3 z0 Z.2,(Eb aJ 89 [w0]),es true (RI .i64) w0 3 x bd]) p4 ?_)))))
     intro v4 s5 d1
     have t3:Kp G0 _ v4:=(Kp.cons (d1.on 0 rfl) (Kp.cons (d1.on 4 rfl) (Kp.cons (d1.on 3 rfl) Kp.nil0)))
     refine ta 0 (U) (ta 1 (I b0) (bn H fun h4 k3 H=>tx 2 (fun n i=>ixO lm e1.m k3) ?_))
     obtain ⟨l_267,s8,g9⟩:=OA.at e1.m k3
     obtain rfl:=s8
     refine AC.takeK 3 (I h4) t3 rfl (by kernel_rfl) (by kernel_rfl) (by kernel_rfl) (fun n i T=>(rx (by kernel_rfl) (lI u_3 rfl (T.on 0 rfl) (e1.m.blk k3) (at1 (j:=0) g9 rfl)))) (tkx 4 t3 (fun n i T=>le1 0 lm (T.on 1 rfl)) (ta 5 (I b0) (bn H fun i4 l3 H=>tx 6 (fun n i=>ixO lm u.m l3) ?_)))
     obtain ⟨l_271,t8,h9⟩:=OA.at u.m l3
     obtain rfl:=t8
     refine AC.takeK 7 (I i4) t3 rfl (by kernel_rfl) (by kernel_rfl) (by kernel_rfl) (fun n i T=>(rx (by kernel_rfl) (lI u_3 rfl (T.on 2 rfl) (u.m.blk l3) (at1 (j:=0) h9 rfl)))) (ta 8 (B (h4 != i4)) (dn (nrm (cn H (fun u8 H=>?_) (fun u8 H=>?_)))))
     ·refine sr (md (sC 4 0 (B false) [B false] 7 d1 ⟨rfl,trivial⟩) ?_)
      rintro p7 l276 b7
      refine wln (W.ret (bkr (thr ?_)))
      cases H
      refine ⟨_,rfl,⟨rfl,?_⟩⟩
      have c7:=b7.sD 8 [7]
      exact jn p7 ⟨j0,c7,rfl,e3.m⟩
     refine W.skip (bkn (nrm (W.region (va (I b0) (vv (I (w64 (b0+1))) (WL.nil ?_))))))
     cases H
     exact ⟨_,rfl,jn v4 ⟨d1,rfl⟩⟩
    refine W.exit (thx ?_)
    cases H
    exact ⟨_,rfl,rfl,jn o7 ⟨p4,rfl⟩⟩
   ·exact jn f2 ⟨n4,rfl⟩
   rcases s2 with s2|s2
   ·intro ex_; revert ex_
    rintro _ e_ w_ ⟨rfl,w4,g279,_,rfl,l278,rfl,l6,q4,rfl,h7⟩
    refine bkr (thr ?_)
    cases u0
    exact wk rt pt hct pt q4 h7
   rintro _ e_ w_ ⟨rfl,q7,g286,_,rfl,o3,rfl,e7,rfl⟩
   refine bke (nrm (W.seq (bn u0 fun y3 j5 u0=>W.join (Jn q7 fun c l=>Own c j0 (es true (RI .i64) U 3 z0 Z.2::(Eb X 45 (VL a.2.1 (.slice p q s)))::es false am (.slice p q s) 48 t2 a.2.1.Lines::es true (RI .i64) w0 3 x bd::(Eb aJ 89 [w0])::(Eb aY 3 [I nn])::(Eb aH 35 (FL fd za zb zc))::(Eb aX 4 [B y3])::F)/\l= [(4,Q aX)]) ?_ ?_)))
   ·clear u0
    refine rD [] (Kp G0 [(Eb aJ 89 [w0]),es true (RI .i64) w0 3 x bd]) e7 ?_
    intro r7 p3 c2
    have u3:Kp G0 _ r7:=(Kp.cons (c2.on 4 rfl) (Kp.cons (c2.on 3 rfl) Kp.nil0))
    refine tkx 0 u3 (fun n i T=>le1 0 lm (T.on 0 rfl)) (tx 1 (fun n i=>lnO 3 lm u.m) (ta 2 (B ((bd.length:Int)==0)) ?_))
    rcases bo ((bd.length:Int)==0) with i1|i1
    ·obtain rfl:=orT i1 j5
     refine AC.takeb 3 i1 rfl (by kernel_rfl) (by kernel_rfl) (fun n i=>(by kernel_rfl)) (tp 4 (tp 6 (tp 7 (tp 8 (tp 5 (tp 9 (tp 10 (tp 11 (tp 13 (tp 14 (tp 15 (tp 16 (tp 17 (tp 18 (tp 19 (tp 12 (tp 20 (tp 21 (tp 22 (ta 23 (B true) (o1 24 (gD 24 (sC 4 0 (B true) [B true] 7 c2 ⟨rfl,trivial⟩) ?_))))))))))))))))))))))
     rintro x4 l297 y2
     have p9:Kp G0 _ x4:=(Kp.cons (y2.on 4 rfl) (Kp.cons (y2.on 3 rfl) Kp.nil0))
     exact ⟨.inr p9,dn (nrm (jn x4 ⟨y2,rfl⟩))⟩
    have f0:=orF i1 j5
    refine bn f0 fun u2 m3 f0=>bn f0 fun j4 v8 f0=>bn f0 fun d_128 l5 f0=>AC.takeb 3 i1 rfl (by kernel_rfl) (by kernel_rfl) (fun n i=>(by kernel_rfl)) (ta 4 (d0) (tkx 6 u3 (fun n i T=>le1 0 lm (T.on 0 rfl)) (tx 7 (fun n i=>ixO lm u.m m3) ?_)))
    obtain ⟨l_303,w8,i9⟩:=OA.at u.m m3
    obtain rfl:=w8
    refine AC.takeK 8 (I u2) u3 rfl (by kernel_rfl) (by kernel_rfl) (by kernel_rfl) (fun n i T=>(rx (by kernel_rfl) (lI u_3 rfl (T.on 1 rfl) (u.m.blk m3) (at1 (j:=0) i9 rfl)))) (o1 5 (gc 5 (zW c2 hT.m a.2.2 i3.m v8) ?_))
    rintro v311 s7 t5 ⟨d2,rfl⟩
    have v3:Kp G0 _ s7:=(Kp.cons (d2.on 4 rfl) (Kp.cons (d2.on 3 rfl) Kp.nil0))
    refine ⟨.inr v3,ta 9 (B (j4==u2)) ?_⟩
    rcases bo (j4==u2) with j1|j1
    ·have a0:=anT j1 l5
     refine bn a0 fun y5 n3 a0=>bn a0 fun z5 m5 a0=>bn a0 fun s0 x8 a0=>bn a0 fun t0 y8 a0=>AC.takeb 10 j1 rfl (by kernel_rfl) (by kernel_rfl) (fun n i=>(by kernel_rfl)) (ta 11 (d0) (ta 13 (Qo b6 (0+2)) (tx 14 (fun n i=>l1 nK ((mm m8) 2 _ rfl)) (tkx 15 v3 (fun n i T=>le1 0 lm (T.on 0 rfl)) (tx 16 (fun n i=>ixO lm u.m n3) ?_)))))
     obtain ⟨l_319,z8,j9⟩:=OA.at u.m n3
     obtain rfl:=z8
     refine AC.takeK 17 (I y5) v3 rfl (by kernel_rfl) (by kernel_rfl) (by kernel_rfl) (fun n i T=>(rx (by kernel_rfl) (lI u_3 rfl (T.on 1 rfl) (u.m.blk n3) (at1 (j:=0) j9 rfl)))) ?_
     obtain ⟨l_322,a9,k9⟩:=Sl.at (h2.m) (aU m5)
     obtain ⟨v325,rfl,b9⟩:=a9
     refine tx 18 (fun n i=>ix nK h2.m m5) (tx 19 (fun n i=>lN 38 (mm k9)) (o1 12 (gc 12 (A0 d2 (hG.m.le (by decide)) a.2.2 i3.m x8) ?_)))
     rintro v332 t7 l331 ⟨z2,rfl⟩
     have q9:Kp G0 _ t7:=(Kp.cons (z2.on 4 rfl) (Kp.cons (z2.on 3 rfl) Kp.nil0))
     refine ⟨.inr q9,o1 20 (gc 20 (mG z2 z5 b9.m y8) ?_)⟩
     rintro v339 u7 l338 ⟨b3,rfl⟩
     have r9:Kp G0 _ u7:=(Kp.cons (b3.on 4 rfl) (Kp.cons (b3.on 3 rfl) Kp.nil0))
     refine ⟨.inr r9,ta 21 (B (s0==t0)) ?_⟩
     cases a0
     refine ta 22 (B (s0==t0)) ?_
     cases f0
     refine ta 23 (B (s0==t0)) (o1 24 (gD 24 (sC 4 0 (B (s0==t0)) [B (s0==t0)] 7 b3 ⟨rfl,trivial⟩) ?_))
     rintro y4 l342 c3
     have s9:Kp G0 _ y4:=(Kp.cons (c3.on 4 rfl) (Kp.cons (c3.on 3 rfl) Kp.nil0))
     exact ⟨.inr s9,dn (nrm (jn y4 ⟨c3,rfl⟩))⟩
    obtain rfl:=anF j1 l5
    refine AC.takeb 10 j1 rfl (by kernel_rfl) (by kernel_rfl) (fun n i=>(by kernel_rfl)) (tp 11 (tp 13 (tp 14 (tp 15 (tp 16 (tp 17 (tp 18 (tp 19 (tp 12 (tp 20 (tp 21 (ta 22 (B false) ?_))))))))))))
    cases f0
    refine ta 23 (B false) (o1 24 (gD 24 (sC 4 0 (B false) [B false] 7 d2 ⟨rfl,trivial⟩) ?_))
    rintro z4 l345 d3
    have t9:Kp G0 _ z4:=(Kp.cons (d3.on 4 rfl) (Kp.cons (d3.on 3 rfl) Kp.nil0))
    exact ⟨.inr t9,dn (nrm (jn z4 ⟨d3,rfl⟩))⟩
   rintro e_ w_ ⟨b5,g348,_,rfl,l347,rfl,r4,rfl⟩
   refine nrm (W.ret ?_)
   cases u0
   exact wk rt pt hct pt (r4.sD 8 [7]) e3.m)
end Go.Proofs.YtclmdpamofdoiaaGreatDoor
