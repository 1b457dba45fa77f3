import Derived.Test.YtamldoocjjdidaaGreatMWidN
import Derived.Great.Walk
import Derived.Great.BuildSlice
import Derived.Laws.CopyRow
namespace Go.Proofs.YtamldoocjjdidaaGreat
open Go.RowKit
set_option maxRecDepth 100000
set_option maxHeartbeats 64000000
theorem alloc_run (P:Program) (t:TypeId) (i:TypeInfo) (cs:Array Value) (hi:P.info? t=some i) (hz:i.zero=some (.agg cs)) (w:World) :
  (Instr.alloc t true (.tuple #[])).run P w=.ok (.pointer (some ⟨w.heap.size,0,none⟩)) (w.alloc (.cells cs t)):=by
 simp[Instr.alloc,zeroValue,typeInfo,hi,hz,go_sem]
theorem zero_parts {P:Program} {t:TypeId} {cs:Array Value} (h:(P.info? t).bind (·.zero)=some (.agg cs)):∃i,P.info? t=some i∧i.zero=some (.agg cs):=by
 cases hq:P.info? t with
 |none=>simp[hq] at h
 |some i=>exact⟨i,rfl,by simpa[hq] using h⟩
section
variable {P:Program} {ops:Array Oper} {rest:List Oper} {o:Oper} {a:Act} {w:World} {Q:Exit→Act→World→Prop}
theorem wpList_alloc_var (hg:o.guard=none) (t:TypeId) (ho:o.op=.alloc t) (cs:Array Value) (hz:(P.info? t).bind (·.zero)=some (.agg cs))
  (h:∀w1,Blk w1 w.heap.size t cs→Ext w w1→w1.heap.size=w.heap.size+1→wpList P ops Q rest (a.put o.dst (.pointer (some ⟨w.heap.size,0,none⟩))) w1):wpList P ops Q (o :: rest) a w:=by
 obtain⟨i,hi,hz⟩:=zero_parts hz;refine wpList_plain hg fun K hK=>?_
 unfold Oper.wp execOp;simp only[ho,Sem.run_bind,alloc_run P t i cs hi hz,Sem.run_pure,Result.andThen_ok,Oper.upon_value];exact hK _ _ (h _ (Blk.new _ _ _) ((Ext.refl _).alloc _) (by simp))
theorem grown_setRow (w:World) (g:Nat) (cs:Array Value):w.grownBy (w.setRow g cs) (some g):=by
 refine⟨rfl,rfl,rfl,by simp[World.setRow],fun k hk hne=>?_⟩;have:g≠k:=fun e=>hne (by rw[e])
 simp[World.setRow,Array.getElem?_modify,this]
theorem blk_setRow {t:TypeId} {old cs:Array Value} {g:Nat} (h:Blk w g t old):Blk (w.setRow g cs) g t cs:=by
 unfold Blk at *;simp[World.setRow,Array.getElem?_modify,h]
theorem wpList_store_blk (hgd:o.guard=none) (ty:TypeId) (x y:Operand) (ho:o.op=.store ty x y) (g:Nat) (hx:a.eval x=.pointer (some ⟨g,0,none⟩)) (cells:Array Value) (hy:a.eval y=.agg cells)
  (t:TypeId) (old:Array Value) (hg:Blk w g t old) (hi:(P.info? ty).map (·.size)=some cells.size) (hold:old.size=cells.size) (h1:cells.all (·.oneCell')=true)
  (h:∀w1,Blk w1 g t cells→w.grownBy w1 (some g)→w1.heap.size=w.heap.size→wpList P ops Q rest (a.put o.dst undef) w1):wpList P ops Q (o :: rest) a w:=
 wpList_store_row hgd ty x y ho g cells hx hy t old hg hi hold h1 (h _ (blk_setRow hg) (grown_setRow w g cells) (by simp[World.setRow]))
theorem Blk.grown {g':Nat} {t':TypeId} {cs:Array Value} {w':World} {row:Option Nat} (h:Blk w g' t' cs) (hb:w.grownBy w' row) (hg:row≠some g'):Blk w' g' t' cs:=
 (hb.block g' h.lt (fun e=>hg e.symm)).trans h
theorem wpList_store_cell (hgd:o.guard=none) (ty:TypeId) (x y:Operand) (ho:o.op=.store ty x y) (g i:Nat) (hx:a.eval x=.pointer (some ⟨g,i,none⟩)) (v:Value) (hy:a.eval y=v) (h1:v.oneCell'=true)
  (t:TypeId) (old:Array Value) (hg:Blk w g t old) (hlt:i<old.size) (hi:(P.info? ty).map (·.size)=some 1)
  (h:∀w1,Blk w1 g t (old.setIfInBounds i v)→w.grownBy w1 (some g)→w1.heap.size=w.heap.size→wpList P ops Q rest (a.put o.dst undef) w1):wpList P ops Q (o :: rest) a w:=by
 refine wpList_plain hgd fun K hK=>?_
 have hc:w.cell? ⟨g,i,none⟩=some old[i]:=by rw[hg.cell];simp[hlt]
 have hf:w.frozen? ⟨g,i,none⟩=false:=hg.frozen i;unfold Oper.wp execOp;have hrun:(storeVar ty ⟨g,i,none⟩ v).run P w=.ok () (w.setCell ⟨g,i,none⟩ v):=by
  cases hq:P.info? ty with
  |none=>simp[hq] at hi
  |some ti=>
   have hs:ti.size=1:=by simpa[hq] using hi
   clear hy h;cases v<;>first|(cases h1;done)|(simp[storeVar,sizeOf,typeInfo,hq,hs,hc,hf,go_sem,stored];done)|(simp[storeVar,sizeOf,typeInfo,hq,hs,go_sem];rw[run_store _ _ _ _ _ rfl];simp[hc,hf];done)
 simp only[ho,hx,hy,Instr.storeAt,Instr.sureAddr,Sem.run_bind,Sem.run_pure,Result.andThen_ok,hrun];exact hK _ _ (h _ (hg.set_ i v) ⟨rfl,rfl,rfl,by simp[World.setCell],fun k hk hne=>Below.heap_setCell w ⟨g,i,none⟩ v k (by rintro rfl;exact hne rfl)⟩ (by simp[World.setCell]))
end
section
variable {P:Program} {w:World}
theorem run_copy_rd (t ty e k:Nat) (hu:P.underlying t=some (.slice e)) (hs:(P.info? e).map (·.size)=some k) (g n:Nat) (A:Option Addr) (m c:Nat) (cur:List Value) (bt:TypeId) (hg:Blk w g bt cur.toArray) (hcl:cur.length=n*k)
  (xs:List Value) (hr:Rd w k A m xs) (h1:∀u∈xs,u.oneCell'=true) :
  (Builtin.copy_ #[t,t] ty #[.slice (some ⟨g,0,none⟩) n n,.slice A m c]).run P w=.ok (goInt (Nat.min m n)) (w.setRow g (xs.take (Nat.min m n*k)++cur.drop (Nat.min m n*k)).toArray):=by
 obtain⟨i,hi,hsz⟩:∃i,P.info? e=some i∧i.size=k:=by
  cases hq:P.info? e with
  |none=>simp[hq] at hs
  |some i=>exact⟨i,rfl,by simpa[hq] using hs⟩
 have hle:Nat.min m n*k≤m*k:=Nat.mul_le_mul_right k (Nat.min_le_left m n);have hle2:Nat.min m n*k≤n*k:=Nat.mul_le_mul_right k (Nat.min_le_right m n);have hxl:=hr.len;obtain⟨q,hq⟩:∃q,Nat.min m n*k=q:=⟨_,rfl⟩
 have hcs:(xs.take q).length=q:=by rw[List.length_take];omega
 rcases A with _|ad
 ·have hm:m=0:=by
   rcases Nat.eq_zero_or_pos m with h0|h0
   ·exact h0
   ·obtain⟨b,off,h,_⟩:=hr.at_ h0;cases h
  subst hm;have h0:Nat.min 0 n=0:=Nat.zero_min n;rw[h0,Nat.zero_mul,List.take_zero,List.nil_append,List.drop_zero,setRow_self w g cur.toArray bt (0,0) hg];simp[Builtin.copy_,run_underlying hu,Builtin.lenOf,Builtin.firstCells,sizeOf,typeInfo,hi,storeCells,h0]
 ·have hcells:∀j u,(xs.take q)[j]?=some u→w.cell? (ad.add j)=some u:=by
   intro j u hu;have hjl:=(List.getElem?_eq_some_iff.1 hu).1;have hm:0<m:=by
    rcases Nat.eq_zero_or_pos m with h0|h0
    ·subst h0;simp at hxl;rw[hcs] at hjl;omega
    ·exact h0
   obtain⟨b,off,h,_,hc⟩:=hr.at_ hm;injection h with h;subst h;rw[List.getElem?_take] at hu
   split at hu
   ·have:=hc j u hu;by_cases hj:j=0
    ·subst hj;simpa[Addr.add] using this
    ·simpa[Addr.add,hj] using this
   ·cases hu
  have hl:=run_loadCells_list (P:=P) w ad (xs.take q) hcells;rw[hcs] at hl;have hst:=run_storeCells_at P g 0 bt (xs.take q) 0 cur.toArray w hg (by simp[hcl];omega) (fun v hv=>h1 v (List.mem_of_mem_take hv));rw[hcs] at hst;simp only[Nat.zero_add,List.take_zero,List.nil_append] at hst;simp[Builtin.copy_,run_underlying hu,Builtin.lenOf,Builtin.firstCells,sizeOf,typeInfo,hi,hsz,hq,hl,hst]
theorem wpList_copy_rd {ops:Array Oper} {rest:List Oper} {o:Oper} {a:Act} {Q:Exit→Act→World→Prop} (hgd:o.guard=none) (d s:Operand) (t:TypeId)
  (ho:o.op=.call { callee:=.builtin .copy,args:=#[d,s],argTypes:=#[t,t] }) (e k:Nat) (hu:P.underlying t=some (.slice e)) (hs:(P.info? e).map (·.size)=some k) (g n:Nat) (hd:a.eval d=.slice (some ⟨g,0,none⟩) n n)
  (A:Option Addr) (m c:Nat) (hsr:a.eval s=.slice A m c) (cur:List Value) (bt:TypeId) (hg:Blk w g bt cur.toArray) (hcl:cur.length=n*k) (xs:List Value) (hr:Rd w k A m xs) (h1:∀u∈xs,u.oneCell'=true)
  (h:∀w1,Blk w1 g bt (xs.take (Nat.min m n*k)++cur.drop (Nat.min m n*k)).toArray→w.grownBy w1 (some g)→w1.heap.size=w.heap.size→wpList P ops Q rest (a.put o.dst (.int .i64 ((Nat.min m n:Nat):Int))) w1):wpList P ops Q (o :: rest) a w:=by
 refine wpList_plain hgd fun K hK=>?_
 have hrun:=run_copy_rd (P:=P) t o.type e k hu hs g n A m c cur bt hg hcl xs hr h1;unfold Oper.wp;simp only[execOp,ho,resolve,invoke,builtin,Sem.run_bind,Sem.run_pure,Result.andThen_ok,List.map_toArray,List.map_cons,List.map_nil,hd,hsr,hrun];exact hK _ _ (h _ (blk_setRow hg) (grown_setRow w g _) (by simp[World.setRow]))
end
end Go.Proofs.YtamldoocjjdidaaGreat
