/- copy from any source into a row of the call's own, whatever the size of the elements (walk law). -/
import Derived.Test.YtkkkdjkjggofkaaAl
import Derived.Laws.CopyRow
namespace Go.Proofs.Ytkkkdjkjggofkaa
open Go.RowKit
section
variable {P : Program} {w : World}
theorem run_copy_rd (t ty e k : Nat) (hu : P.underlying t = some (.slice e)) (hs : (P.info? e).map (·.size) = some k) (g n : Nat) (A : Option Addr) (m c : Nat) (cur : List Value) (bt : TypeId) (hg : Blk w g bt cur.toArray) (hcl : cur.length = n * k)
    (xs : List Value) (hr : Rd w k A m xs) (h1 : ∀ u ∈ xs, u.oneCell' = true) :
    (Builtin.copy_ #[t, t] ty #[.slice (some ⟨g, 0, none⟩) n n, .slice A m c]).run P w = .ok (goInt (Nat.min m n)) (w.setRow g (xs.take (Nat.min m n * k) ++ cur.drop (Nat.min m n * k)).toArray) := by
  obtain ⟨i, hi, hsz⟩ : ∃ i, P.info? e = some i ∧ i.size = k := by
    cases hq : P.info? e with
    | none => simp [hq] at hs
    | some i => exact ⟨i, rfl, by simpa [hq] using hs⟩
  have hle : Nat.min m n * k ≤ m * k := Nat.mul_le_mul_right k (Nat.min_le_left m n)
  have hle2 : Nat.min m n * k ≤ n * k := Nat.mul_le_mul_right k (Nat.min_le_right m n)
  have hxl := hr.len
  obtain ⟨q, hq⟩ : ∃ q, Nat.min m n * k = q := ⟨_, rfl⟩
  have hcs : (xs.take q).length = q := by rw [List.length_take]; omega
  rcases A with _ | ad
  · have hm : m = 0 := by
      rcases Nat.eq_zero_or_pos m with h0 | h0
      · exact h0
      · obtain ⟨b, off, h, _⟩ := hr.at_ h0; cases h
    subst hm
    have h0 : Nat.min 0 n = 0 := Nat.zero_min n
    rw [h0, Nat.zero_mul, List.take_zero, List.nil_append, List.drop_zero, setRow_self w g cur.toArray bt (0, 0) hg]
    simp [Builtin.copy_, run_underlying hu, Builtin.lenOf, Builtin.firstCells, sizeOf, typeInfo, hi, storeCells, h0]
  · have hcells : ∀ j u, (xs.take q)[j]? = some u → w.cell? (ad.add j) = some u := by
      intro j u hu
      have hjl := (List.getElem?_eq_some_iff.1 hu).1
      have hm : 0 < m := by
        rcases Nat.eq_zero_or_pos m with h0 | h0
        · subst h0; simp at hxl; rw [hcs] at hjl; omega
        · exact h0
      obtain ⟨b, off, h, _, hc⟩ := hr.at_ hm
      injection h with h
      subst h
      rw [List.getElem?_take] at hu
      split at hu
      · have := hc j u hu
        by_cases hj : j = 0
        · subst hj; simpa [Addr.add] using this
        · simpa [Addr.add, hj] using this
      · cases hu
    have hl := run_loadCells_list (P := P) w ad (xs.take q) hcells
    rw [hcs] at hl
    have hst := run_storeCells_at P g 0 bt (xs.take q) 0 cur.toArray w hg (by simp [hcl]; omega) (fun v hv => h1 v (List.mem_of_mem_take hv))
    rw [hcs] at hst
    simp only [Nat.zero_add, List.take_zero, List.nil_append] at hst
    simp [Builtin.copy_, run_underlying hu, Builtin.lenOf, Builtin.firstCells, sizeOf, typeInfo, hi, hsz, hq, hl, hst]
theorem wpList_copy_rd {ops : Array Oper} {rest : List Oper} {o : Oper} {a : Act} {Q : Exit → Act → World → Prop} (hgd : o.guard = none) (d s : Operand) (t : TypeId)
    (ho : o.op = .call { callee := .builtin .copy, args := #[d, s], argTypes := #[t, t] }) (e k : Nat) (hu : P.underlying t = some (.slice e)) (hs : (P.info? e).map (·.size) = some k) (g n : Nat) (hd : a.eval d = .slice (some ⟨g, 0, none⟩) n n)
    (A : Option Addr) (m c : Nat) (hsr : a.eval s = .slice A m c) (cur : List Value) (bt : TypeId) (hg : Blk w g bt cur.toArray) (hcl : cur.length = n * k) (xs : List Value) (hr : Rd w k A m xs) (h1 : ∀ u ∈ xs, u.oneCell' = true)
    (h : ∀ w1, Blk w1 g bt (xs.take (Nat.min m n * k) ++ cur.drop (Nat.min m n * k)).toArray → w.grownBy w1 (some g) → w1.heap.size = w.heap.size → wpList P ops Q rest (a.put o.dst (.int .i64 ((Nat.min m n : Nat) : Int))) w1) : wpList P ops Q (o :: rest) a w := by
  refine wpList_plain hgd fun K hK => ?_
  have hrun := run_copy_rd (P := P) t o.type e k hu hs g n A m c cur bt hg hcl xs hr h1
  unfold Oper.wp
  simp only [execOp, ho, resolve, invoke, builtin, Sem.run_bind, Sem.run_pure, Result.andThen_ok, List.map_toArray, List.map_cons, List.map_nil, hd, hsr, hrun]
  exact hK _ _ (h _ (blk_setRow hg) (grown_setRow w g _) (by simp [World.setRow]))
end
end Go.Proofs.Ytkkkdjkjggofkaa
