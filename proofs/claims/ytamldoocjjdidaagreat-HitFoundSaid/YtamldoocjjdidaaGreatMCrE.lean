import Derived.Test.YtamldoocjjdidaaGreatMHtA
import Derived.Outline
import Derived.Great.Ranges
namespace Go.Proofs.YtamldoocjjdidaaGreat
open Go.RowKit
set_option maxRecDepth 100000
set_option maxHeartbeats 64000000
def zsty:Sty:=⟨0,false,0,0,⟨0,0⟩,⟨0,0⟩,⟨0,0⟩,⟨0,0⟩,⟨0,0⟩,⟨0,0⟩,⟨0,0⟩,⟨0,0⟩,⟨0,0⟩,⟨0,0⟩,0,0,0,0,0,0,0,0,0,0,false,0,0,0,0,0,⟨0,0⟩,none,0,0⟩
theorem zero_sty:(Tryz.prog.info? 65).bind (·.zero)=some (.agg zsty.cells):=by kernel_rfl
theorem i64_info:(Tryz.prog.info? 2).map (fun i=>(i.zero,i.size,i.bytes))=some (some (.int .i64 0),1,8):=by kernel_rfl
structure MIn (w:World) (gU gH n:Nat) (us:List Us) (hs:List Int):Prop where
 u:∀i,i<n→∀j v,(usC (us.getD i ⟨0,0,0⟩))[j]?=some v→w.cell? ⟨gU,i*3+j,none⟩=some v
 h:∀i,i<n→w.cell? ⟨gH,i,none⟩=some (.int .i64 (hs.getD i 0))
 lu:gU<w.heap.size
 lh:gH<w.heap.size
theorem MIn.ext {w w':World} {gU gH n:Nat} {us:List Us} {hs:List Int} (k:MIn w gU gH n us hs) (hx:Ext w w'):MIn w' gU gH n us hs:=
 ⟨fun i hi j v hv=>(hx.cells.1 gU _ k.lu).trans (k.u i hi j v hv),fun i hi=>(hx.cells.1 gH _ k.lh).trans (k.h i hi),Nat.lt_of_lt_of_le k.lu hx.size,Nat.lt_of_lt_of_le k.lh hx.size⟩
theorem MIn.set {w:World} {gU gH n:Nat} {us:List Us} {hs:List Int} (k:MIn w gU gH n us hs) {p:Addr} (h1:gU≠p.block) (h2:gH≠p.block) (v:Value):MIn (w.setCell p v) gU gH n us hs:=
 ⟨fun i hi j v' hv=>(World.cell?_of_block (Below.heap_setCell w p v gU h1)).trans (k.u i hi j v' hv),fun i hi=>(World.cell?_of_block (Below.heap_setCell w p v gH h2)).trans (k.h i hi),by simpa[World.setCell] using k.lu,by simpa[World.setCell] using k.lh⟩
structure StyH (s:Sty):Prop where
 h:s.h.k=1→0≤s.h.n∧s.h.n≤1099511627776
 lo:s.minh.k=1→0≤s.minh.n∧s.minh.n≤1099511627776
 hi:s.maxh.k=1→0≤s.maxh.n∧s.maxh.n≤1099511627776
structure ItBd (x:It):Prop where
 sh:StyH x.s
 left:-2000000000000≤x.left∧x.left≤2000000000000
 right:-2000000000000≤x.right∧x.right≤2000000000000
 wide:0≤x.wide∧x.wide≤10000000000000
 high:0≤x.high∧x.high≤200000000000000
 down:0≤x.down∧x.down≤5000000000000
 above:-20000000000000≤x.above∧x.above≤20000000000000
 below:-20000000000000≤x.below∧x.below≤20000000000000
theorem Rd.ptr {w:World} {A:Option Addr} {m:Nat} {g:Nat→Nat} {ks:List Nat} (h:Rd w 1 A m (ptrs g ks)) {p k:Nat} (hp:ks[p]?=some k):∃b off,A=some ⟨b,off,none⟩∧b<w.heap.size∧w.cell? ⟨b,off+p,none⟩=some (ptrV (g k)):=by
 have hl:=(List.getElem?_eq_some_iff.1 hp).1;have hm:m=ks.length:=by have:=h.len;rw[ptrs_len] at this;omega
 obtain⟨b,off,rfl,hb,hc⟩:=h.at_ (by omega);exact⟨b,off,rfl,hb,hc _ _ (ptrs_get hp)⟩
theorem takeS {α:Type} {l:List α} {p:Nat} {x:α} (h:l[p]?=some x):l.take (p+1)=l.take p++[x]:=by
 obtain⟨h1,h2⟩:=List.getElem?_eq_some_iff.1 h;rw[List.take_succ_eq_append_getElem h1,h2]
structure ItX (w w':World) (g:Nat→Nat) (n:Nat):Prop where
 os:w'.os=w.os
 tape:w'.tape=w.tape
 output:w'.output=w.output
 size:w.heap.size≤w'.heap.size
 block:∀q,q<w.heap.size→(∀i,i<n→q≠g i)→w'.heap[q]?=w.heap[q]?
section
variable {w w' w'':World} {g:Nat→Nat} {n:Nat}
theorem ItX.refl (w:World) (g:Nat→Nat) (n:Nat):ItX w w g n:=⟨rfl,rfl,rfl,Nat.le_refl _,fun _ _ _=>rfl⟩
theorem ItX.step (h:ItX w w' g n) (k:Ext w' w''):ItX w w'' g n:=
 ⟨k.os.trans h.os,k.tape.trans h.tape,k.output.trans h.output,Nat.le_trans h.size k.size,fun q hq hx=>(k.block q (Nat.lt_of_lt_of_le hq h.size)).trans (h.block q hq hx)⟩
theorem ItX.trans (h:ItX w w' g n) (k:ItX w' w'' g n):ItX w w'' g n:=
 ⟨k.os.trans h.os,k.tape.trans h.tape,k.output.trans h.output,Nat.le_trans h.size k.size,fun q hq hx=>(k.block q (Nat.lt_of_lt_of_le hq h.size) hx).trans (h.block q hq hx)⟩
theorem ItX.of (h:Ext w w'):ItX w w' g n:=(ItX.refl w g n).step h
theorem ItX.set (h:ItX w w' g n) {i j:Nat} (hi:i<n) (v:Value):ItX w (w'.setCell ⟨g i,j,none⟩ v) g n:=
 ⟨h.os,h.tape,h.output,by simpa[World.setCell] using h.size,fun q hq hx=>(Below.heap_setCell w' ⟨g i,j,none⟩ v q (hx i hi)).trans (h.block q hq hx)⟩
theorem ItX.blk (h:ItX w w' g n) {q:Nat} {t:TypeId} {cs:Array Value} (hb:Blk w q t cs) (hq:∀i,i<n→q≠g i):Blk w' q t cs:=(h.block q hb.lt hq).trans hb
theorem ItX.rd (h:ItX w w' g n) {k m:Nat} {A:Option Addr} {xs:List Value} (hr:Rd w k A m xs) (hx:∀b off,A=some ⟨b,off,none⟩→∀i,i<n→b≠g i):Rd w' k A m xs:=
 ⟨hr.len,fun hm=>by
  obtain⟨b,off,rfl,hb,hc⟩:=hr.at_ hm;exact⟨b,off,rfl,Nat.lt_of_lt_of_le hb h.size,fun j u hu=>(World.cell?_of_block (h.block b hb (hx b off rfl))).trans (hc j u hu)⟩⟩
theorem ItX.ext {w0:World} (h:ItX w w' g n) (k:Ext w0 w) (hx:∀i,i<n→w0.heap.size≤g i):Ext w0 w':=
 ⟨h.os.trans k.os,h.tape.trans k.tape,h.output.trans k.output,Nat.le_trans k.size h.size,fun q hq=>(h.block q (Nat.lt_of_lt_of_le hq k.size) (fun i hi e=>by have:=hx i hi;omega)).trans (k.block q hq)⟩
end
theorem It.sty (x:It) {j:Nat} {v:Value} (h:(styC x.s)[j]?=some v):x.cells[j]?=some v:=by
 have hj:j<43:=(List.getElem?_eq_some_iff.1 h).1;unfold It.cells;rw[List.getElem?_append_left (show j<43 from hj)];exact h
end Go.Proofs.YtamldoocjjdidaaGreat
