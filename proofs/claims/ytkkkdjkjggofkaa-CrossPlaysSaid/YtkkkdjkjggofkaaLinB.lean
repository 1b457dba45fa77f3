/- Regions gone through operation by operation: variables of a struct type, kept as one block. -/
import Derived.Test.YtkkkdjkjggofkaaLinG
import Derived.Test.YtkkkdjkjggofkaaAl
namespace Go.Proofs.Ytkkkdjkjggofkaa
open Go.RowKit
section
variable {P : Program} {o : Oper} {a : Act} {w : World} {K : Act → World → Prop} {Q : Exit → Act → World → Prop}
theorem wp_alloc_var (t : TypeId) (ho : o.op = .alloc t) (cs : Array Value) (hz : (P.info? t).bind (·.zero) = some (.agg cs))
    (h : K (a.put o.dst (.pointer (some ⟨w.heap.size, 0, none⟩))) (w.alloc (.cells cs t))) : o.wp P a w K Q := by
  obtain ⟨i, hi, hz⟩ := zero_parts hz
  unfold Oper.wp execOp
  simp only [ho, Sem.run_bind, alloc_run P t i cs hi hz, Sem.run_pure, Result.andThen_ok, Oper.upon_value]
  exact h
theorem wp_store_blk (ty : TypeId) (x y : Operand) (ho : o.op = .store ty x y) (g : Nat) (hx : a.eval x = .pointer (some ⟨g, 0, none⟩)) (cells : Array Value) (hy : a.eval y = .agg cells)
    (t : TypeId) (old : Array Value) (hg : Blk w g t old) (hi : (P.info? ty).map (·.size) = some cells.size) (hold : old.size = cells.size) (h1 : cells.all (·.oneCell') = true)
    (h : ∀ w1, Blk w1 g t cells → w.grownBy w1 (some g) → w1.heap.size = w.heap.size → K (a.put o.dst undef) w1) : o.wp P a w K Q :=
  wp_store_row ty x y ho g cells hx hy t old hg hi hold h1 (h _ (blk_setRow hg) (grown_setRow w g cells) (by simp [World.setRow]))
theorem wp_load_blk (ty : TypeId) (x : Operand) (ho : o.op = .load ty x) (g : Nat) (hx : a.eval x = .pointer (some ⟨g, 0, none⟩)) (t : TypeId) (cs : Array Value) (d : TypeDesc) (hg : Blk w g t cs)
    (hu : P.underlying ty = some d) (hd : (match d with | .struct _ | .array _ _ => true | _ => false) = true) (hi : (P.info? ty).map (·.size) = some cs.size)
    (h : K (a.put o.dst (.agg cs)) w) : o.wp P a w K Q := wp_load_row ty x ho g hx t cs (0, 0) d hg hu hd hi h
theorem wp_buildTo (t : TypeId) (parts : Array (Nat × Operand)) (ho : o.op = .build t parts) (cells : Array Value) (hf : P.built t (parts.map fun (i, x) => (i, a.eval x)).toList = some cells)
    (h : K (a.put o.dst (.agg cells)) w) : o.wp P a w K Q := wp_build t parts ho (by rw [hf]; rfl) (by rw [hf]; exact h)
theorem ExtX.grownIn {w0 w' : World} {xs : List Nat} {g : Nat} (h : ExtX w0 w xs) (hg : w.grownBy w' (some g)) (hx : g ∈ xs ∨ w0.heap.size ≤ g) : ExtX w0 w' xs :=
  ⟨hg.os.trans h.os, hg.tape.trans h.tape, hg.output.trans h.output, Nat.le_trans h.size hg.size, fun i hi hn => by
    refine (hg.block i (Nat.lt_of_lt_of_le hi h.size) (fun e => ?_)).trans (h.block i hi hn)
    injection e with e
    subst e
    rcases hx with hx | hx
    · exact hn hx
    · omega⟩
end
end Go.Proofs.Ytkkkdjkjggofkaa
