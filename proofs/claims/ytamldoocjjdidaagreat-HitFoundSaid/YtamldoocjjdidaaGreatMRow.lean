import Derived.Test.YtamldoocjjdidaaGreatMCpy
import Derived.Test.YtamldoocjjdidaaGreatMBigC
import Derived.Laws.OwnMore
import Derived.Laws.MakeOwn
namespace Go.Proofs.YtamldoocjjdidaaGreat
open Go.RowKit
set_option maxRecDepth 100000
set_option maxHeartbeats 64000000
def ints (zs:List Int):List Value:=zs.map (Value.int .i64)
theorem ints_append (a b:List Int):ints (a++b)=ints a++ints b:=by simp[ints]
theorem ints_len (a:List Int):(ints a).length=a.length:=by simp[ints]
theorem one_ints (zs:List Int):∀u∈ints zs,u.oneCell'=true:=by
 intro u hu;obtain⟨z,_,rfl⟩:=List.mem_map.1 hu;rfl
theorem ints_get {zs:List Int} {i:Nat} (h:i<zs.length):(ints zs)[i]?=some (.int .i64 zs[i]):=by simp[ints,h]
theorem int_info:(Tryz.prog.info? 3).map (fun i=>(i.zero,i.size,i.bytes))=some (some (.int .i64 0),1,8):=by kernel_rfl
theorem sl_info:(Tryz.prog.info? 52).map (fun i=>(i.zero,i.size,i.bytes))=some (some (.slice none 0 0),1,24):=by kernel_rfl
theorem make_n {P:Program} (t e:TypeId) (i:TypeInfo) (z:Value) (ht:P.underlying t=some (.slice e)) (hi:P.info? e=some i) (hz:i.zero=some z) (hs:i.size=1) (hz1:z.cells=#[z])
  (n:Nat) (hbytes:i.bytes*n≤281474976710656) (h63:n≤9223372036854775807) (w:World) :
  (Instr.makeSlice t (.int .i64 (n:Int)) (.int .i64 (n:Int))).run P w=.ok (.slice (some ⟨w.heap.size,0,none⟩) n n) (w.alloc (.cells (Array.replicate n z) e)):=by
 have hb:(i.bytes:Int)*(n:Int)≤281474976710656:=by
  have h:((i.bytes*n:Nat):Int)≤281474976710656:=by omega
  rwa [Int.natCast_mul] at h
 have hr:=run_make (P:=P) w t e i z ht hi hz .i64 .i64 (n:Int) (n:Int) (by omega) (by omega) hb (by omega);simp only[Int.toNat_natCast] at hr;rw[hr,hs,Nat.mul_one,hz1];have:madeCells #[z] n=Array.replicate n z:=by
  apply Array.toList_inj.1;rw[toList_madeCells_one,Array.toList_replicate]
 rw[this]
theorem make_rows (n:Nat) (hn:n≤1000000) (w:World):(Instr.makeSlice 77 (.int .i64 (n:Int)) (.int .i64 (n:Int))).run Tryz.prog w=.ok (.slice (some ⟨w.heap.size,0,none⟩) n n) (w.alloc (.cells (Array.replicate n (.slice none 0 0)) 52)):=by
 obtain⟨i0,hi0,hz0,hz1,hz2⟩:=info_parts sl_info;exact make_n _ _ i0 _ Tryz.underlying77 hi0 hz0 hz1 rfl n (by rw[hz2];omega) (by omega) w
theorem grown_cell {w:World} {g i:Nat} (u:Value):w.grownBy (w.setCell ⟨g,i,none⟩ u) (some g):=
 ⟨rfl,rfl,rfl,by simp[World.setCell],fun k _ hne=>Below.heap_setCell w ⟨g,i,none⟩ u k (by rintro rfl;exact hne rfl)⟩
structure Rws (w:World) (B g n:Nat) (L:Nat→List Int) (vs:List Value):Prop where
 blk:Blk w g 52 vs.toArray
 len:vs.length=n
 base:B≤g
 row:∀(i:Nat) (v:Value),vs[i]?=some v→w.ownsRow B 3 1 v (L i).length (ints (L i))
 sep:∀(i j:Nat) (v u:Value) (b:Nat),i≠j→vs[i]?=some v→vs[j]?=some u→v.ownBlock=some b→u.ownBlock≠some b
 off:∀(i:Nat) (v:Value),vs[i]?=some v→v.ownBlock≠some g
section
variable {w w':World} {B g n:Nat} {L:Nat→List Int} {vs:List Value}
theorem Rws.start (w:World) (B n:Nat) (hB:B≤w.heap.size):Rws (w.alloc (.cells (Array.replicate n (.slice none 0 0)) 52)) B w.heap.size n (fun _=>[]) (List.replicate n (.slice none 0 0)):=by
 have key:∀(i:Nat) (v:Value),(List.replicate n (Value.slice none 0 0))[i]?=some v→v=.slice none 0 0:=by
  intro i v h;have:=List.mem_of_getElem? h;exact (List.mem_replicate.1 this).2
 refine⟨by rw[List.toArray_replicate];exact Blk.new _ _ _,by simp,hB,fun i v h=>?_,fun i j v u b _ h _ hb=>?_,fun i v h=>?_⟩
 ·rw[key i v h];exact World.ownsRow_nil ..
 ·rw[key i v h] at hb;cases hb
 ·rw[key i v h];simp[Value.ownBlock]
theorem Rws.grown (h:Rws w B g n L vs) {row:Option Nat} (hg:w.grownBy w' row) (h1:row≠some g) (h2:∀(i:Nat) (v:Value),vs[i]?=some v→v.ownBlock=none∨v.ownBlock≠row):Rws w' B g n L vs:=
 ⟨h.blk.grown hg h1,h.len,h.base,fun i v hv=>(h.row i v hv).kept hg (h2 i v hv),h.sep,h.off⟩
theorem Rws.ext (h:Rws w B g n L vs) (hx:Ext w w'):Rws w' B g n L vs:=
 h.grown (row:=none) ⟨hx.os,hx.tape,hx.output,hx.size,fun i hi _=>hx.block i hi⟩ (by simp) (fun i v _=>by cases h:v.ownBlock<;>simp)
theorem Rws.alloc (h:Rws w B g n L vs) (o:Obj):Rws (w.alloc o) B g n L vs:=h.ext ((Ext.refl _).alloc o)
theorem Rws.congr (h:Rws w B g n L vs) {M:Nat→List Int} (hM:∀i,i<n→M i=L i):Rws w B g n M vs:=
 ⟨h.blk,h.len,h.base,fun i v hv=>by
  have hi:i<n:=by have:=(List.getElem?_eq_some_iff.1 hv).1;rw[h.len] at this;exact this
  rw[hM i hi];exact h.row i v hv,h.sep,h.off⟩
theorem Rws.get (h:Rws w B g n L vs) {p:Nat} (hp:p<n):∃v,vs[p]?=some v∧w.cell? ⟨g,p,none⟩=some v∧w.frozen? ⟨g,p,none⟩=false∧w.ownsRow B 3 1 v (L p).length (ints (L p)):=by
 have hl:p<vs.length:=by rw[h.len];exact hp
 refine⟨vs[p],AE hl,?_,h.blk.frozen p,h.row p _ (AE hl)⟩;rw[h.blk.cell];simp[hl]
theorem Rws.step (h:Rws w B g n L vs) {p:Nat} {v v':Value} {x:Int} {m:Nat} (hp:vs[p]?=some v) (hg:w.grownBy w' v.ownBlock) (hm:m=(L p++[x]).length) (hown:w'.ownsRow B 3 1 v' m (ints (L p)++[.int .i64 x]))
  (hat:v'.ownBlock=v.ownBlock∨v'.ownBlock=some w.heap.size):Rws (w'.setCell ⟨g,p,none⟩ v') B g n (fun q=>if q=p then L p++[x] else L q) (vs.set p v'):=by
 have hpl:=(List.getElem?_eq_some_iff.1 hp).1;have hgs:=h.blk.lt;have ho:v'.ownBlock≠some g:=by
  rcases hat with e|e
  ·rw[e];exact h.off p v hp
  ·rw[e];intro e2;injection e2 with e2;omega
 have old:∀(i:Nat) (u:Value),i≠p→vs[i]?=some u→∀b:Nat,u.ownBlock=some b→v'.ownBlock≠some b:=by
  intro i u hi hu b hb
  rcases hat with e|e
  ·rw[e];exact h.sep i p u v b hi hu hp hb
  ·rw[e];intro e2;injection e2 with e2;have:=(h.row i u hu).lt b hb;omega
 have get:∀(i:Nat) (u:Value),(vs.set p v')[i]?=some u→(i=p∧u=v')∨(i≠p∧vs[i]?=some u):=by
  intro i u hu;by_cases hi:i=p
  ·subst hi;rw[List.getElem?_set_self hpl] at hu;exact .inl ⟨rfl,by simpa using hu.symm⟩
  ·rw[List.getElem?_set_ne (fun e=>hi e.symm)] at hu;exact .inr ⟨hi,hu⟩
 refine⟨?_,by simpa using h.len,h.base,fun i u hu=>?_,fun i j u u2 b hij hu hu2 hb=>?_,fun i u hu=>?_⟩
 ·have:=(h.blk.grown hg (h.off p v hp)).set_ p v'
  rwa [List.setIfInBounds_toArray] at this
 ·rcases get i u hu with ⟨hi,he⟩|⟨hi,hu'⟩
  ·rw[he];simp only[if_pos hi];rw[←hm,show ints (L p++[x])=ints (L p)++[Value.int .i64 x] by rw[ints_append];rfl];exact hown.kept (grown_cell _) (.inr ho)
  ·simp only[if_neg hi];refine ((h.row i u hu').kept hg ?_).kept (grown_cell v') (.inr (h.off i u hu'));cases e:u.ownBlock with
   |none=>exact .inl rfl
   |some b=>exact .inr (fun e2=>h.sep i p u v b hi hu' hp e e2.symm)
 ·rcases get i u hu with ⟨hi,he⟩|⟨hi,hu'⟩
  ·rcases get j u2 hu2 with ⟨hj,he2⟩|⟨hj,hu2'⟩
   ·exact absurd (hi.trans hj.symm) hij
   ·intro e;rw[he] at hb;exact old j u2 hj hu2' b e hb
  ·rcases get j u2 hu2 with ⟨hj,he2⟩|⟨hj,hu2'⟩
   ·rw[he2];exact old i u hi hu' b hb
   ·exact h.sep i j u u2 b hij hu' hu2' hb
 ·rcases get i u hu with ⟨hi,he⟩|⟨hi,hu'⟩
  ·rw[he];exact ho
  ·exact h.off i u hu'
end
structure RdR (w:World) (B:Nat) (A:Option Addr) (n:Nat) (L:Nat→List Int):Prop where
 at_:∀i,i<n→∃b off Ai ci,A=some ⟨b,off,none⟩∧B≤b∧b<w.heap.size∧w.cell? ⟨b,off+i,none⟩=some (.slice Ai (L i).length ci)∧Rd w 1 Ai (L i).length (ints (L i))∧∀b' off',Ai=some ⟨b',off',none⟩→B≤b'
theorem RdR.ext {w w':World} {B:Nat} {A:Option Addr} {n:Nat} {L:Nat→List Int} (h:RdR w B A n L) (hx:Ext w w'):RdR w' B A n L:=
 ⟨fun i hi=>by
  obtain⟨b,off,Ai,ci,ha,hB,hb,hc,hr,hf⟩:=h.at_ i hi;exact⟨b,off,Ai,ci,ha,hB,Nat.lt_of_lt_of_le hb hx.size,(hx.cells.1 b _ hb).trans hc,hr.ext hx,hf⟩⟩
theorem RdR.congr {w:World} {B:Nat} {A:Option Addr} {n:Nat} {L M:Nat→List Int} (h:RdR w B A n L) (hM:∀i,i<n→M i=L i):RdR w B A n M:=
 ⟨fun i hi=>by rw[hM i hi];exact h.at_ i hi⟩
theorem RdR.mono {w:World} {B C:Nat} {A:Option Addr} {n:Nat} {L:Nat→List Int} (h:RdR w B A n L) (hC:C≤B):RdR w C A n L:=
 ⟨fun i hi=>by
  obtain⟨b,off,Ai,ci,ha,hB,hb,hc,hr,hf⟩:=h.at_ i hi;exact⟨b,off,Ai,ci,ha,Nat.le_trans hC hB,hb,hc,hr,fun b' o' e=>Nat.le_trans hC (hf b' o' e)⟩⟩
theorem Rws.rdr {w:World} {B g n:Nat} {L:Nat→List Int} {vs:List Value} (h:Rws w B g n L vs):RdR w B (some ⟨g,0,none⟩) n L:=
 ⟨fun i hi=>by
  obtain⟨v,hv,hc,_,ho⟩:=h.get hi;have key:∃Ai ci,v=.slice Ai (L i).length ci∧∀b' off',Ai=some ⟨b',off',none⟩→B≤b':=by
   rcases ho.2 with ⟨rfl,h0⟩|⟨g',cap,cur,rfl,hb,_⟩
   ·exact⟨none,0,by rw[h0],fun _ _ e=>by cases e⟩
   ·exact⟨_,_,rfl,fun b' o' e=>by injection e with e;injection e with e1 e2;omega⟩
  obtain⟨Ai,ci,rfl,hf⟩:=key;exact⟨g,0,Ai,ci,rfl,h.base,h.blk.lt,by rw[Nat.zero_add];exact hc,Rd.of_own ho,hf⟩⟩
def RowsOut (w:World) (n:Nat) (L:Nat→List Int) (e:Ending) (w':World):Prop:=∃A,e=.returned (.slice A n n)∧RdR w' w.heap.size A n L∧Ext w w'
def IntsOut (w:World) (l:List Int) (e:Ending) (w':World):Prop:=∃A c,e=.returned (.slice A l.length c)∧Rd w' 1 A l.length (ints l)∧Ext w w'
end Go.Proofs.YtamldoocjjdidaaGreat
