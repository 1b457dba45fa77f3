/- A variable of a struct type, made, written and kept as one block: what a walk needs of it in place of its cells. -/
import Derived.Test.YtkkkdjkjggofkaaU2
import Derived.Test.YtkkkdjkjggofkaaRd
import Derived.Great.Walk
import Derived.Great.BuildSlice
namespace Go.Proofs.Ytkkkdjkjggofkaa
open Go.RowKit
theorem alloc_run (P : Program) (t : TypeId) (i : TypeInfo) (cs : Array Value) (hi : P.info? t = some i) (hz : i.zero = some (.agg cs)) (w : World) :
    (Instr.alloc t true (.tuple #[])).run P w = .ok (.pointer (some ⟨w.heap.size, 0, none⟩)) (w.alloc (.cells cs t)) := by
  simp [Instr.alloc, zeroValue, typeInfo, hi, hz, go_sem]
/-- the zero value of a type, as one closed fact -/
theorem zero_parts {P : Program} {t : TypeId} {cs : Array Value} (h : (P.info? t).bind (·.zero) = some (.agg cs)) : ∃ i, P.info? t = some i ∧ i.zero = some (.agg cs) := by
  cases hq : P.info? t with
  | none => simp [hq] at h
  | some i => exact ⟨i, rfl, by simpa [hq] using h⟩

section
variable {P : Program} {ops : Array Oper} {rest : List Oper} {o : Oper} {a : Act} {w : World} {Q : Exit → Act → World → Prop}
theorem wpList_alloc_var (hg : o.guard = none) (t : TypeId) (ho : o.op = .alloc t) (cs : Array Value) (hz : (P.info? t).bind (·.zero) = some (.agg cs))
    (h : ∀ w1, Blk w1 w.heap.size t cs → Ext w w1 → w1.heap.size = w.heap.size + 1 → wpList P ops Q rest (a.put o.dst (.pointer (some ⟨w.heap.size, 0, none⟩))) w1) : wpList P ops Q (o :: rest) a w := by
  obtain ⟨i, hi, hz⟩ := zero_parts hz
  refine wpList_plain hg fun K hK => ?_
  unfold Oper.wp execOp
  simp only [ho, Sem.run_bind, alloc_run P t i cs hi hz, Sem.run_pure, Result.andThen_ok, Oper.upon_value]
  exact hK _ _ (h _ (Blk.new _ _ _) ((Ext.refl _).alloc _) (by simp))

theorem grown_setRow (w : World) (g : Nat) (cs : Array Value) : w.grownBy (w.setRow g cs) (some g) := by
  refine ⟨rfl, rfl, rfl, by simp [World.setRow], fun k hk hne => ?_⟩
  have : g ≠ k := fun e => hne (by rw [e])
  simp [World.setRow, Array.getElem?_modify, this]
theorem blk_setRow {t : TypeId} {old cs : Array Value} {g : Nat} (h : Blk w g t old) : Blk (w.setRow g cs) g t cs := by
  unfold Blk at *
  simp [World.setRow, Array.getElem?_modify, h]
/-- a whole struct is stored into a variable of its own -/
theorem wpList_store_blk (hgd : o.guard = none) (ty : TypeId) (x y : Operand) (ho : o.op = .store ty x y) (g : Nat) (hx : a.eval x = .pointer (some ⟨g, 0, none⟩)) (cells : Array Value) (hy : a.eval y = .agg cells)
    (t : TypeId) (old : Array Value) (hg : Blk w g t old) (hi : (P.info? ty).map (·.size) = some cells.size) (hold : old.size = cells.size) (h1 : cells.all (·.oneCell') = true)
    (h : ∀ w1, Blk w1 g t cells → w.grownBy w1 (some g) → w1.heap.size = w.heap.size → wpList P ops Q rest (a.put o.dst undef) w1) : wpList P ops Q (o :: rest) a w :=
  wpList_store_row hgd ty x y ho g cells hx hy t old hg hi hold h1 (h _ (blk_setRow hg) (grown_setRow w g cells) (by simp [World.setRow]))
theorem Blk.grown {g' : Nat} {t' : TypeId} {cs : Array Value} {w' : World} {row : Option Nat} (h : Blk w g' t' cs) (hb : w.grownBy w' row) (hg : row ≠ some g') : Blk w' g' t' cs :=
  (hb.block g' h.lt (fun e => hg e.symm)).trans h
/-- one cell of a variable is stored into -/
theorem wpList_store_cell (hgd : o.guard = none) (ty : TypeId) (x y : Operand) (ho : o.op = .store ty x y) (g i : Nat) (hx : a.eval x = .pointer (some ⟨g, i, none⟩)) (v : Value) (hy : a.eval y = v) (h1 : v.oneCell' = true)
    (t : TypeId) (old : Array Value) (hg : Blk w g t old) (hlt : i < old.size) (hi : (P.info? ty).map (·.size) = some 1)
    (h : ∀ w1, Blk w1 g t (old.setIfInBounds i v) → w.grownBy w1 (some g) → w1.heap.size = w.heap.size → wpList P ops Q rest (a.put o.dst undef) w1) : wpList P ops Q (o :: rest) a w := by
  refine wpList_plain hgd fun K hK => ?_
  have hc : w.cell? ⟨g, i, none⟩ = some old[i] := by rw [hg.cell]; simp [hlt]
  have hf : w.frozen? ⟨g, i, none⟩ = false := hg.frozen i
  unfold Oper.wp execOp
  have hrun : (storeVar ty ⟨g, i, none⟩ v).run P w = .ok () (w.setCell ⟨g, i, none⟩ v) := by
    cases hq : P.info? ty with
    | none => simp [hq] at hi
    | some ti =>
      have hs : ti.size = 1 := by simpa [hq] using hi
      clear hy h
      cases v <;> first | (cases h1; done) | (simp [storeVar, sizeOf, typeInfo, hq, hs, hc, hf, go_sem, stored]; done) | (simp [storeVar, sizeOf, typeInfo, hq, hs, go_sem]; rw [run_store _ _ _ _ _ rfl]; simp [hc, hf]; done)
  simp only [ho, hx, hy, Instr.storeAt, Instr.sureAddr, Sem.run_bind, Sem.run_pure, Result.andThen_ok, hrun]
  exact hK _ _ (h _ (hg.set_ i v) ⟨rfl, rfl, rfl, by simp [World.setCell], fun k hk hne => Below.heap_setCell w ⟨g, i, none⟩ v k (by rintro rfl; exact hne rfl)⟩ (by simp [World.setCell]))
end
end Go.Proofs.Ytkkkdjkjggofkaa
