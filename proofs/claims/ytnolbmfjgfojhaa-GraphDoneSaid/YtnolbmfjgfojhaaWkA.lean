/- Trees of the anchors (walks). -/
import Derived.Test.YtnolbmfjgfojhaaPut
namespace Go.Proofs.Ytnolbmfjgfojhaa
open Go.RowKit
@[reducible] def stK (k : Int) : Sty := ⟨k, false, 0, 0, ⟨0, 0⟩, ⟨0, 0⟩, ⟨0, 0⟩, ⟨0, 0⟩, ⟨0, 0⟩, ⟨0, 0⟩, ⟨0, 0⟩, ⟨0, 0⟩, ⟨0, 0⟩, ⟨0, 0⟩, 0, 0, 0, 0, 0, 0, 0, 0, 0, 0, false, 0, 0, 0, 0, 0, ⟨0, 0⟩, none, 0, 0⟩
@[reducible] def ndK (p k : Int) : Nd := ⟨p, stK k⟩
theorem zero_tr : (Try.prog.info? 25).bind (·.zero) = some (.agg #[.slice none 0 0, .slice none 0 0, .int .i64 0]) := by kernel_rfl
theorem info_nodes : (Try.prog.info? 47).map (fun i => (i.zero, i.size)) = some (some (.agg znd.cells.toArray), 44) := by kernel_rfl
theorem node_parts : ∃ i, Try.prog.info? 47 = some i ∧ i.zero = some (.agg znd.cells.toArray) ∧ i.size = 44 := by
  have h := info_nodes
  cases hq : Try.prog.info? 47 with
  | none => rw [hq] at h; cases h
  | some i =>
    rw [hq, Option.map_some] at h
    injection h with h
    injection h with h1 h2
    exact ⟨i, rfl, h1, h2⟩
/-- a slice of nodes, laid out -/
theorem wpList_nodes {ops : Array Oper} {rest : List Oper} {o : Oper} {a : Act} {w : World} {Q : Exit → Act → World → Prop} (hg : o.guard = none) (len : Nat) (parts : Array (Nat × Operand)) (ho : o.op = .buildSlice 22 len parts)
    (l : List Nd) (hl : 0 < len ∧ len ≤ 1000)
    (hf : Instr.fill (fun i => some (i * 44, 44)) ((Array.range (len * 44)).map (znd.cells.toArray[· % 44]!)) (parts.map fun (i, x) => (i, a.eval x)).toList = some (nds l).toArray)
    (h : ∀ w', Blk w' w.heap.size 47 (nds l).toArray → Ext w w' → w'.heap.size = w.heap.size + 1 → wpList Try.prog ops Q rest (a.put o.dst (.slice (some ⟨w.heap.size, 0, none⟩) len len)) w') : wpList Try.prog ops Q (o :: rest) a w := by
  obtain ⟨i, hi, hz, hs⟩ := node_parts
  refine wpList_buildSlice hg 22 47 len parts ho (nds l).toArray i _ Try.underlying22 hi hz (by rw [hs]; omega) (by rw [hs]; omega) (by rw [hs]; exact hf) (h _ (Blk.new _ _ _) ((Ext.refl _).alloc _) (by simp))
theorem Blk.rdk {w : World} {g n k : Nat} {t : TypeId} {cs : Array Value} (h : Blk w g t cs) (hn : cs.size = n * k) : Rd w k (some ⟨g, 0, none⟩) n cs.toList :=
  ⟨by simp [hn], fun _ => ⟨g, 0, rfl, h.lt, fun j u hu => by rw [Nat.zero_add, h.cell]; simpa using hu⟩⟩
/-- one result, which lies in a block of its own -/
theorem results_cell {P : Program} {fn : Func} {p : Tmp} {ty : TypeId} (h : fn.results = #[.cell p ty]) (tmps : Array Value) (w : World) (g : Nat) (T : TypeId) (cs : Array Value) (d : TypeDesc)
    (hp : tmps.getD p undef = .pointer (some ⟨g, 0, none⟩)) (hg : Blk w g T cs)
    (hu : P.underlying ty = some d) (hd : (match d with | .struct _ | .array _ _ => true | _ => false) = true) (hi : (P.info? ty).map (·.size) = some cs.size) :
    (results fn tmps).run P w = .ok (.agg cs) w := by
  have hp' : tmps[p]?.getD undef = .pointer (some ⟨g, 0, none⟩) := by simpa using hp
  simp [results, h, hp', asAddr, run_loadVar_row w g T ty cs (0, 0) d hg hu hd hi]
def tr6 : List Nd := [ndK (-1) 1, ndK 0 1, ndK 1 2, ndK 2 1, ndK 3 1, ndK 0 1]
theorem tr6_ok : TOk tr6 := ⟨by decide, by decide, fun i hi => by
  match i, hi with
  | 0, _ => exact (show nodeV tr6 0 = 0 by kernel_rfl)
  | 1, _ => exact (show nodeV tr6 1 = 0 by kernel_rfl)
  | 2, _ => exact (show nodeV tr6 2 = 0 by kernel_rfl)
  | 3, _ => exact (show nodeV tr6 3 = 0 by kernel_rfl)
  | 4, _ => exact (show nodeV tr6 4 = 0 by kernel_rfl)
  | 5, _ => exact (show nodeV tr6 5 = 0 by kernel_rfl)
  | n + 6, h => exact absurd h (by simp [tr6])⟩
theorem tr6_roots : rootsN tr6 tr6.length = [0, 2, 3] := by kernel_rfl
theorem tr6_of : ofN tr6 = [0, 0, 2, 3, 3, 0] := by kernel_rfl
theorem tr6_in0 : insN tr6 0 = [1, 2, 5] := by kernel_rfl
theorem tr6_in2 : insN tr6 2 = [3] := by kernel_rfl
theorem tr6_over3 : overI tr6 3 = 2 := by kernel_rfl
theorem tr6_over0 : overI tr6 0 = -1 := by kernel_rfl
set_option maxRecDepth 100000 in
set_option maxHeartbeats 4000000 in
theorem plain_any (w : World) : Calls Try.prog 61 #[] w fun e w' => ∃ g, e = .returned (.agg (Tr.cs ⟨some ⟨g, 0, none⟩, 6, 6, none, 0, 0, 0⟩)) ∧ Rd w' 44 (some ⟨g, 0, none⟩) 6 (nds tr6) ∧ Ext w w' := by
  go_enter Try.func61, Try.ntmps61
  go_upto_region 0 with fail
  go_step
  refine wpList_alloc_var rfl 25 rfl #[.slice none 0 0, .slice none 0 0, .int .i64 0] zero_tr ?_
  intro w0 B0 E0 z0
  simp only [Act.put, List.setIfInBounds_toArray, List.set_cons_zero]
  generalize hg0 : w.heap.size = g0 at *
  go_upto_region 1 with fail
  go_step
  refine wpList_buildTo rfl 45 _ rfl _ rfl (stK 1).cells (by kernel_rfl) ?_
  simp only [Act.put, List.setIfInBounds_toArray, List.set_cons_succ, List.set_cons_zero]
  refine wpList_alloc_var rfl 45 rfl zst.cells zero_st ?_
  intro wa Ba Ea za
  simp only [Act.put, List.setIfInBounds_toArray, List.set_cons_succ, List.set_cons_zero]
  refine wpList_store_blk rfl 45 _ _ rfl w0.heap.size rfl (stK 1).cells rfl 45 zst.cells Ba (info_style _) rfl (by kernel_rfl) ?_
  intro ws1 Bs1 hg zs
  simp only [Act.put]
  have E1 : Ext w ws1 := Ext.grown (E0.trans Ea) hg (fun g e => by injection e with e; omega)
  have B01 := (B0.ext Ea).grown hg (fun e => by injection e with e; have := B0.lt; omega)
  have z1 : ws1.heap.size = g0 + 2 := by omega
  have hg1 : w0.heap.size = g0 + 1 := by omega
  rw [hg1] at Bs1 ⊢
  clear Ba Ea za hg zs B0 E0 hg1 z0
  clear w0
  go_upto_region 2 with fail
  go_step
  refine wpList_buildTo rfl 45 _ rfl _ rfl (stK 2).cells (by kernel_rfl) ?_
  simp only [Act.put, List.setIfInBounds_toArray, List.set_cons_succ, List.set_cons_zero]
  refine wpList_alloc_var rfl 45 rfl zst.cells zero_st ?_
  intro wa Ba Ea za
  simp only [Act.put, List.setIfInBounds_toArray, List.set_cons_succ, List.set_cons_zero]
  refine wpList_store_blk rfl 45 _ _ rfl ws1.heap.size rfl (stK 2).cells rfl 45 zst.cells Ba (info_style _) rfl (by kernel_rfl) ?_
  intro ws2 Bs2 hg zs
  simp only [Act.put]
  have E2 : Ext w ws2 := Ext.grown (E1.trans Ea) hg (fun g e => by injection e with e; omega)
  have B02 := (B01.ext Ea).grown hg (fun e => by injection e with e; omega)
  have B12 := (Bs1.ext Ea).grown hg (fun e => by injection e with e; omega)
  have z2 : ws2.heap.size = g0 + 3 := by omega
  rw [z1] at Bs2 ⊢
  clear Ba Ea za hg zs B01 Bs1 E1 z1
  clear ws1
  go_upto_region 3 with fail
  go_step
  refine wpList_load_blk rfl 45 _ rfl (g0 + 1) rfl 45 (stK 1).cells _ B12 Try.underlying45 rfl (info_style _) ?_
  simp only [Act.put, List.setIfInBounds_toArray, List.set_cons_succ, List.set_cons_zero]
  refine wpList_buildTo rfl 47 _ rfl _ rfl (ndK (-1) 1).cells.toArray (by kernel_rfl) ?_
  simp only [Act.put, List.setIfInBounds_toArray, List.set_cons_succ, List.set_cons_zero]
  refine wpList_load_blk rfl 45 _ rfl (g0 + 1) rfl 45 (stK 1).cells _ B12 Try.underlying45 rfl (info_style _) ?_
  simp only [Act.put, List.setIfInBounds_toArray, List.set_cons_succ, List.set_cons_zero]
  refine wpList_buildTo rfl 47 _ rfl _ rfl (ndK 0 1).cells.toArray (by kernel_rfl) ?_
  simp only [Act.put, List.setIfInBounds_toArray, List.set_cons_succ, List.set_cons_zero]
  refine wpList_load_blk rfl 45 _ rfl (g0 + 2) rfl 45 (stK 2).cells _ Bs2 Try.underlying45 rfl (info_style _) ?_
  simp only [Act.put, List.setIfInBounds_toArray, List.set_cons_succ, List.set_cons_zero]
  refine wpList_buildTo rfl 47 _ rfl _ rfl (ndK 1 2).cells.toArray (by kernel_rfl) ?_
  simp only [Act.put, List.setIfInBounds_toArray, List.set_cons_succ, List.set_cons_zero]
  refine wpList_load_blk rfl 45 _ rfl (g0 + 1) rfl 45 (stK 1).cells _ B12 Try.underlying45 rfl (info_style _) ?_
  simp only [Act.put, List.setIfInBounds_toArray, List.set_cons_succ, List.set_cons_zero]
  refine wpList_buildTo rfl 47 _ rfl _ rfl (ndK 2 1).cells.toArray (by kernel_rfl) ?_
  simp only [Act.put, List.setIfInBounds_toArray, List.set_cons_succ, List.set_cons_zero]
  refine wpList_load_blk rfl 45 _ rfl (g0 + 1) rfl 45 (stK 1).cells _ B12 Try.underlying45 rfl (info_style _) ?_
  simp only [Act.put, List.setIfInBounds_toArray, List.set_cons_succ, List.set_cons_zero]
  refine wpList_buildTo rfl 47 _ rfl _ rfl (ndK 3 1).cells.toArray (by kernel_rfl) ?_
  simp only [Act.put, List.setIfInBounds_toArray, List.set_cons_succ, List.set_cons_zero]
  refine wpList_load_blk rfl 45 _ rfl (g0 + 1) rfl 45 (stK 1).cells _ B12 Try.underlying45 rfl (info_style _) ?_
  simp only [Act.put, List.setIfInBounds_toArray, List.set_cons_succ, List.set_cons_zero]
  refine wpList_buildTo rfl 47 _ rfl _ rfl (ndK 0 1).cells.toArray (by kernel_rfl) ?_
  simp only [Act.put, List.setIfInBounds_toArray, List.set_cons_succ, List.set_cons_zero]
  refine wpList_nodes rfl 6 _ rfl tr6 (by decide) (by kernel_rfl) ?_
  intro w3 B3 E3 z3
  simp only [Act.put, List.setIfInBounds_toArray, List.set_cons_succ, List.set_cons_zero]
  rw [z2] at B3 ⊢
  replace E2 := E2.trans E3
  replace B02 := B02.ext E3
  clear z2 z3 E3 B12 Bs2
  clear ws2
  refine wpList_buildTo rfl 25 _ rfl _ rfl (Tr.cs ⟨some ⟨g0 + 3, 0, none⟩, 6, 6, none, 0, 0, 0⟩) (by kernel_rfl) ?_
  simp only [Act.put, List.setIfInBounds_toArray, List.set_cons_succ, List.set_cons_zero]
  refine wpList_store_blk rfl 25 _ _ rfl g0 rfl (Tr.cs ⟨some ⟨g0 + 3, 0, none⟩, 6, 6, none, 0, 0, 0⟩) rfl 25 #[.slice none 0 0, .slice none 0 0, .int .i64 0] B02 (info_tree _) rfl (by kernel_rfl) ?_
  intro w4 B4 hg z4
  simp only [Act.put]
  have E4 : Ext w w4 := Ext.grown E2 hg (fun g e => by injection e with e; omega)
  have B34 := B3.grown hg (fun e => by injection e with e; omega)
  have c4 := B4.cell
  have l4 := B4.lt
  clear B3 B02 hg E2
  have RR : Rd w4 44 (some ⟨g0 + 3, 0, none⟩) 6 (nds tr6) := by
    have := B34.rdk (n := 6) (k := 44) (by rw [List.size_toArray, nds_len]; rfl)
    simpa using this
  clear B34 c4 l4
  go_wp2_with fail
  refine bodyPost_ret (results_cell Try.results61 _ w4 g0 25 (Tr.cs ⟨some ⟨g0 + 3, 0, none⟩, 6, 6, none, 0, 0, 0⟩) _ rfl B4 Try.underlying25 rfl (info_tree _)) rfl ?_
  exact ⟨g0 + 3, rfl, RR, E4⟩
end Go.Proofs.Ytnolbmfjgfojhaa
