/- The law on widths against the reference: its walk. -/
import Derived.Test.YtkajcipfmdpneaaWidLS
import Derived.Test.YtkajcipfmdpneaaLinB
import Derived.Deep.Cut
import Derived.IntWalk
import Derived.Laws.StructEq
namespace Go.Proofs.Ytkajcipfmdpneaa
open Go.RowKit

theorem eq_used (a b c : Int) (w : World) : (Op.equalIn 10000 32 (.agg #[.int .i64 a, .int .i64 b, .int .i64 c]) (.agg #[.int .i64 a, .int .i64 b, .int .i64 c])).run Try.prog w = .ok true w := by
  have hu := Try.underlying2
  have a3 := Try.isAgg2
  have z3 := Try.sizeOf2
  have hS : Try.prog.underlying 32 = some (.struct (Try.prog.fieldsOf 32)) := by kernel_rfl
  have hp : Try.prog.stoodInHeld 32 = false := by kernel_rfl
  rw [show (10000 : Nat) = 9999 + 1 from rfl, run_equalIn_agg w 9999 32 _ _ hS hp]
  simp only [Program.fieldsOf, Try.underlying32]
  go_simp
set_option maxRecDepth 100000 in
set_option maxHeartbeats 16000000 in
theorem plays_0 (s : Sty) (c x l q : Int) (hM : mayB s = false) (w : World) :
    Calls Try.prog 6 #[.agg s.cells, .int .i64 c, .int .i64 x, .int .i64 l, .int .i64 q] w fun e w' => e = .returned (.bool true) ∧ Ext w w' := by
  have cM := fun w => hide (may_f s hM w)
  go_enter Try.func6, Try.ntmps6
  go_upto_region 1 with fail
  have Bs : Blk (w.alloc (.cells s.cells 28)) w.heap.size 28 s.cells := Blk.new _ _ _
  have E0 : Ext w (w.alloc (.cells s.cells 28)) := (Ext.refl _).alloc _
  generalize (w.alloc (.cells s.cells 28)) = wa at *
  generalize hgs : w.heap.size = g at *
  have HGS := hide hgs
  clear hgs
  refine wp_region_lin0 (fun w' => (ExtX wa w' [])) (fun ii vv ww => match ii with | 0 => vv = (.agg s.cells) | 1 => vv = .bool false | 2 => vv = .bool true | 3 => vv = .bool true | 4 => vv = undef | 5 => vv = undef | 6 => vv = undef | 7 => vv = .bool true | 8 => vv = .bool true | 9 => vv = undef | 10 => vv = undef | 11 => vv = undef | 12 => vv = .bool true | 13 => vv = .bool true | 14 => vv = undef | 15 => vv = undef | 16 => vv = undef | 17 => vv = .bool true | 18 => vv = .bool true | 19 => vv = undef | 20 => vv = undef | 21 => vv = undef | 22 => vv = .bool true | _ => True) (fun ii => match ii with | 1 => [(0, 27)] | 2 => [(1, 28)] | 3 => [(2, 29)] | 4 => [(3, 30)] | 5 => [(4, 31), (3, 30)] | 6 => [(5, 32), (3, 30)] | 7 => [(3, 30), (6, 33)] | 8 => [(7, 34)] | 9 => [(8, 35)] | 10 => [(9, 36), (8, 35)] | 11 => [(10, 37), (8, 35)] | 12 => [(8, 35), (11, 38)] | 13 => [(12, 39)] | 14 => [(13, 40)] | 15 => [(14, 41), (13, 40)] | 16 => [(15, 42), (13, 40)] | 17 => [(13, 40), (16, 43)] | 18 => [(17, 44)] | 19 => [(18, 45)] | 20 => [(19, 46), (18, 45)] | 21 => [(20, 47), (18, 45)] | 22 => [(18, 45), (21, 48)] | _ => []) (fun ii => match ii with | 0 => [5] | 4 => [1] | 9 => [2] | 14 => [3] | 19 => [4] | _ => []) (fun ii => match ii with | 4 => [3] | 5 => [3] | 6 => [3] | 9 => [8] | 10 => [8] | 11 => [8] | 14 => [13] | 15 => [13] | 16 => [13] | 19 => [18] | 20 => [18] | 21 => [18] | _ => []) [22] [0, 1, 3, 7, 15, 31, 63, 127, 255, 511, 1023, 2047, 4095, 8191, 16383, 32767, 65535, 131071, 262143, 524287, 1048575, 2097151, 4194303] 155 rfl (by kernel_rfl) (ExtX.refl _ _) ?_ ?_
  · rename_i hcont; clear hcont
    refine ⟨?_, ?_, ?_, ?_, ?_, ?_, ?_, ?_, ?_, ?_, ?_, ?_, ?_, ?_, ?_, ?_, ?_, ?_, ?_, ?_, ?_, ?_, ?_, trivial⟩
    · refine stepL_plain rfl ?_
      rintro F a w1 jE - ⟨t5, -⟩ K hK
      have t5 : a.tmps[5]? = some (.pointer (some ⟨g, 0, none⟩)) := t5
      have c := (jE.blk Bs (by simp)).cell
      refine wp_load_blk 28 _ rfl g (eval_tmp t5) 28 s.cells _ (jE.blk Bs (by simp)) Try.underlying28 rfl (info_style s) ?_
      exact hK _ _ jE rfl (fun _ _ _ h => h)
    · refine stepL_plain rfl ?_
      rintro F a w1 jE ⟨h0, t27, -⟩ - K hK
      have h0 : (F 0) = (.agg s.cells) := h0
      rw [h0] at t27
      clear h0
      go_simp
      with_reducible refine (unhide (cM _)).mono ?_
      rintro e w2 ⟨rfl, hx⟩
      exact hK _ _ (jE.trans hx) (rfl) (fun _ hj _ _ => (List.not_mem_nil hj).elim)
    · refine stepL_plain rfl ?_
      rintro F a w1 jE ⟨h1, t28, -⟩ - K hK
      have h1 : (F 1) = .bool false := h1
      rw [h1] at t28
      clear h1
      go_simp
      exact hK _ _ jE rfl (fun _ _ _ h => h)
    · refine stepL_plain rfl ?_
      rintro F a w1 jE ⟨h2, t29, -⟩ - K hK
      have h2 : (F 2) = .bool true := h2
      rw [h2] at t29
      clear h2
      go_simp
      exact hK _ _ jE rfl (fun _ _ _ h => h)
    · refine stepL_of ?_
      rintro F a w1 jE ⟨h3, t30, -⟩ ⟨t1, -⟩ K hK
      have h3 : (F 3) = .bool true := h3
      rw [h3] at t30
      clear h3
      have t1 : a.tmps[1]? = some (.int .i64 c) := t1
      exact stepN ((wanted_of 3 false 30 _ rfl rfl t30).trans rfl) (hK undef _ jE rfl (fun _ _ _ h => h))
    · refine stepL_of ?_
      rintro F a w1 jE ⟨h4, t31, h3, t30, -⟩ - K hK
      have h4 : (F 4) = undef := h4
      rw [h4] at t31
      clear h4
      have h3 : (F 3) = .bool true := h3
      rw [h3] at t30
      clear h3
      exact stepN ((wanted_of 3 false 30 _ rfl rfl t30).trans rfl) (hK undef _ jE rfl (fun _ _ _ h => h))
    · refine stepL_of ?_
      rintro F a w1 jE ⟨h5, t32, h3, t30, -⟩ - K hK
      have h5 : (F 5) = undef := h5
      rw [h5] at t32
      clear h5
      have h3 : (F 3) = .bool true := h3
      rw [h3] at t30
      clear h3
      exact stepN ((wanted_of 3 false 30 _ rfl rfl t30).trans rfl) (hK undef _ jE rfl (fun _ _ _ h => h))
    · refine stepL_plain rfl ?_
      rintro F a w1 jE ⟨h3, t30, h6, t33, -⟩ - K hK
      have h3 : (F 3) = .bool true := h3
      rw [h3] at t30
      clear h3
      have h6 : (F 6) = undef := h6
      rw [h6] at t33
      clear h6
      go_simp
      exact hK _ _ jE rfl (fun _ _ _ h => h)
    · refine stepL_plain rfl ?_
      rintro F a w1 jE ⟨h7, t34, -⟩ - K hK
      have h7 : (F 7) = .bool true := h7
      rw [h7] at t34
      clear h7
      go_simp
      exact hK _ _ jE rfl (fun _ _ _ h => h)
    · refine stepL_of ?_
      rintro F a w1 jE ⟨h8, t35, -⟩ ⟨t2, -⟩ K hK
      have h8 : (F 8) = .bool true := h8
      rw [h8] at t35
      clear h8
      have t2 : a.tmps[2]? = some (.int .i64 x) := t2
      exact stepN ((wanted_of 8 false 35 _ rfl rfl t35).trans rfl) (hK undef _ jE rfl (fun _ _ _ h => h))
    · refine stepL_of ?_
      rintro F a w1 jE ⟨h9, t36, h8, t35, -⟩ - K hK
      have h9 : (F 9) = undef := h9
      rw [h9] at t36
      clear h9
      have h8 : (F 8) = .bool true := h8
      rw [h8] at t35
      clear h8
      exact stepN ((wanted_of 8 false 35 _ rfl rfl t35).trans rfl) (hK undef _ jE rfl (fun _ _ _ h => h))
    · refine stepL_of ?_
      rintro F a w1 jE ⟨h10, t37, h8, t35, -⟩ - K hK
      have h10 : (F 10) = undef := h10
      rw [h10] at t37
      clear h10
      have h8 : (F 8) = .bool true := h8
      rw [h8] at t35
      clear h8
      exact stepN ((wanted_of 8 false 35 _ rfl rfl t35).trans rfl) (hK undef _ jE rfl (fun _ _ _ h => h))
    · refine stepL_plain rfl ?_
      rintro F a w1 jE ⟨h8, t35, h11, t38, -⟩ - K hK
      have h8 : (F 8) = .bool true := h8
      rw [h8] at t35
      clear h8
      have h11 : (F 11) = undef := h11
      rw [h11] at t38
      clear h11
      go_simp
      exact hK _ _ jE rfl (fun _ _ _ h => h)
    · refine stepL_plain rfl ?_
      rintro F a w1 jE ⟨h12, t39, -⟩ - K hK
      have h12 : (F 12) = .bool true := h12
      rw [h12] at t39
      clear h12
      go_simp
      exact hK _ _ jE rfl (fun _ _ _ h => h)
    · refine stepL_of ?_
      rintro F a w1 jE ⟨h13, t40, -⟩ ⟨t3, -⟩ K hK
      have h13 : (F 13) = .bool true := h13
      rw [h13] at t40
      clear h13
      have t3 : a.tmps[3]? = some (.int .i64 l) := t3
      exact stepN ((wanted_of 13 false 40 _ rfl rfl t40).trans rfl) (hK undef _ jE rfl (fun _ _ _ h => h))
    · refine stepL_of ?_
      rintro F a w1 jE ⟨h14, t41, h13, t40, -⟩ - K hK
      have h14 : (F 14) = undef := h14
      rw [h14] at t41
      clear h14
      have h13 : (F 13) = .bool true := h13
      rw [h13] at t40
      clear h13
      exact stepN ((wanted_of 13 false 40 _ rfl rfl t40).trans rfl) (hK undef _ jE rfl (fun _ _ _ h => h))
    · refine stepL_of ?_
      rintro F a w1 jE ⟨h15, t42, h13, t40, -⟩ - K hK
      have h15 : (F 15) = undef := h15
      rw [h15] at t42
      clear h15
      have h13 : (F 13) = .bool true := h13
      rw [h13] at t40
      clear h13
      exact stepN ((wanted_of 13 false 40 _ rfl rfl t40).trans rfl) (hK undef _ jE rfl (fun _ _ _ h => h))
    · refine stepL_plain rfl ?_
      rintro F a w1 jE ⟨h13, t40, h16, t43, -⟩ - K hK
      have h13 : (F 13) = .bool true := h13
      rw [h13] at t40
      clear h13
      have h16 : (F 16) = undef := h16
      rw [h16] at t43
      clear h16
      go_simp
      exact hK _ _ jE rfl (fun _ _ _ h => h)
    · refine stepL_plain rfl ?_
      rintro F a w1 jE ⟨h17, t44, -⟩ - K hK
      have h17 : (F 17) = .bool true := h17
      rw [h17] at t44
      clear h17
      go_simp
      exact hK _ _ jE rfl (fun _ _ _ h => h)
    · refine stepL_of ?_
      rintro F a w1 jE ⟨h18, t45, -⟩ ⟨t4, -⟩ K hK
      have h18 : (F 18) = .bool true := h18
      rw [h18] at t45
      clear h18
      have t4 : a.tmps[4]? = some (.int .i64 q) := t4
      exact stepN ((wanted_of 18 false 45 _ rfl rfl t45).trans rfl) (hK undef _ jE rfl (fun _ _ _ h => h))
    · refine stepL_of ?_
      rintro F a w1 jE ⟨h19, t46, h18, t45, -⟩ - K hK
      have h19 : (F 19) = undef := h19
      rw [h19] at t46
      clear h19
      have h18 : (F 18) = .bool true := h18
      rw [h18] at t45
      clear h18
      exact stepN ((wanted_of 18 false 45 _ rfl rfl t45).trans rfl) (hK undef _ jE rfl (fun _ _ _ h => h))
    · refine stepL_of ?_
      rintro F a w1 jE ⟨h20, t47, h18, t45, -⟩ - K hK
      have h20 : (F 20) = undef := h20
      rw [h20] at t47
      clear h20
      have h18 : (F 18) = .bool true := h18
      rw [h18] at t45
      clear h18
      exact stepN ((wanted_of 18 false 45 _ rfl rfl t45).trans rfl) (hK undef _ jE rfl (fun _ _ _ h => h))
    · refine stepL_plain rfl ?_
      rintro F a w1 jE ⟨h18, t45, h21, t48, -⟩ - K hK
      have h18 : (F 18) = .bool true := h18
      rw [h18] at t45
      clear h18
      have h21 : (F 21) = undef := h21
      rw [h21] at t48
      clear h21
      go_simp
      exact hK _ _ jE rfl (fun _ _ _ h => h)
  · rintro F wb jE ⟨h22, -⟩
    have h22 : (F 22) = .bool true := h22
    have hx := jE.ext (Ext.refl _) (by simp)
    replace E0 := E0.trans hx
    clear jE hx Bs
    simp only [putL, Act.put, Nat.reduceAdd, Nat.zero_add, List.setIfInBounds_toArray, List.set_cons_succ, List.set_cons_zero]
    rw [h22]
    clear h22 cM
    go_upto_region 2 with fail
    go_wp2_with fail
    with_reducible refine (works_any _).mono ?_
    rintro e w5 ⟨rfl, hx⟩
    go_wp2_with fail
    go_ret
    exact ⟨rfl, E0.trans hx⟩

set_option maxRecDepth 100000 in
set_option maxHeartbeats 16000000 in
theorem plays_1 (s : Sty) (c x l q : Int) (hM : mayB s = true) (hc : ¬ (-1099511627776 ≤ c ∧ c ≤ 1099511627776)) (w : World) :
    Calls Try.prog 6 #[.agg s.cells, .int .i64 c, .int .i64 x, .int .i64 l, .int .i64 q] w fun e w' => e = .returned (.bool true) ∧ Ext w w' := by
  have cM := fun w => hide (may_t s hM w)
  have cc := fun w => hide (within_f c hc w)
  go_enter Try.func6, Try.ntmps6
  go_upto_region 1 with fail
  have Bs : Blk (w.alloc (.cells s.cells 28)) w.heap.size 28 s.cells := Blk.new _ _ _
  have E0 : Ext w (w.alloc (.cells s.cells 28)) := (Ext.refl _).alloc _
  generalize (w.alloc (.cells s.cells 28)) = wa at *
  generalize hgs : w.heap.size = g at *
  have HGS := hide hgs
  clear hgs
  refine wp_region_lin0 (fun w' => (ExtX wa w' [])) (fun ii vv ww => match ii with | 0 => vv = (.agg s.cells) | 1 => vv = .bool true | 2 => vv = .bool false | 3 => vv = .bool false | 4 => vv = .int .i64 c | 5 => vv = .bool false | 6 => vv = .bool true | 7 => vv = .bool true | 8 => vv = .bool true | 9 => vv = undef | 10 => vv = undef | 11 => vv = undef | 12 => vv = .bool true | 13 => vv = .bool true | 14 => vv = undef | 15 => vv = undef | 16 => vv = undef | 17 => vv = .bool true | 18 => vv = .bool true | 19 => vv = undef | 20 => vv = undef | 21 => vv = undef | 22 => vv = .bool true | _ => True) (fun ii => match ii with | 1 => [(0, 27)] | 2 => [(1, 28)] | 3 => [(2, 29)] | 4 => [(3, 30)] | 5 => [(4, 31), (3, 30)] | 6 => [(5, 32), (3, 30)] | 7 => [(3, 30), (6, 33)] | 8 => [(7, 34)] | 9 => [(8, 35)] | 10 => [(9, 36), (8, 35)] | 11 => [(10, 37), (8, 35)] | 12 => [(8, 35), (11, 38)] | 13 => [(12, 39)] | 14 => [(13, 40)] | 15 => [(14, 41), (13, 40)] | 16 => [(15, 42), (13, 40)] | 17 => [(13, 40), (16, 43)] | 18 => [(17, 44)] | 19 => [(18, 45)] | 20 => [(19, 46), (18, 45)] | 21 => [(20, 47), (18, 45)] | 22 => [(18, 45), (21, 48)] | _ => []) (fun ii => match ii with | 0 => [5] | 4 => [1] | 9 => [2] | 14 => [3] | 19 => [4] | _ => []) (fun ii => match ii with | 4 => [3] | 5 => [3] | 6 => [3] | 9 => [8] | 10 => [8] | 11 => [8] | 14 => [13] | 15 => [13] | 16 => [13] | 19 => [18] | 20 => [18] | 21 => [18] | _ => []) [22] [0, 1, 3, 7, 15, 31, 63, 127, 255, 511, 1023, 2047, 4095, 8191, 16383, 32767, 65535, 131071, 262143, 524287, 1048575, 2097151, 4194303] 155 rfl (by kernel_rfl) (ExtX.refl _ _) ?_ ?_
  · rename_i hcont; clear hcont
    refine ⟨?_, ?_, ?_, ?_, ?_, ?_, ?_, ?_, ?_, ?_, ?_, ?_, ?_, ?_, ?_, ?_, ?_, ?_, ?_, ?_, ?_, ?_, ?_, trivial⟩
    · refine stepL_plain rfl ?_
      rintro F a w1 jE - ⟨t5, -⟩ K hK
      have t5 : a.tmps[5]? = some (.pointer (some ⟨g, 0, none⟩)) := t5
      have c := (jE.blk Bs (by simp)).cell
      refine wp_load_blk 28 _ rfl g (eval_tmp t5) 28 s.cells _ (jE.blk Bs (by simp)) Try.underlying28 rfl (info_style s) ?_
      exact hK _ _ jE rfl (fun _ _ _ h => h)
    · refine stepL_plain rfl ?_
      rintro F a w1 jE ⟨h0, t27, -⟩ - K hK
      have h0 : (F 0) = (.agg s.cells) := h0
      rw [h0] at t27
      clear h0
      go_simp
      with_reducible refine (unhide (cM _)).mono ?_
      rintro e w2 ⟨rfl, hx⟩
      exact hK _ _ (jE.trans hx) (rfl) (fun _ hj _ _ => (List.not_mem_nil hj).elim)
    · refine stepL_plain rfl ?_
      rintro F a w1 jE ⟨h1, t28, -⟩ - K hK
      have h1 : (F 1) = .bool true := h1
      rw [h1] at t28
      clear h1
      go_simp
      exact hK _ _ jE rfl (fun _ _ _ h => h)
    · refine stepL_plain rfl ?_
      rintro F a w1 jE ⟨h2, t29, -⟩ - K hK
      have h2 : (F 2) = .bool false := h2
      rw [h2] at t29
      clear h2
      go_simp
      exact hK _ _ jE rfl (fun _ _ _ h => h)
    · refine stepL_of ?_
      rintro F a w1 jE ⟨h3, t30, -⟩ ⟨t1, -⟩ K hK
      have h3 : (F 3) = .bool false := h3
      rw [h3] at t30
      clear h3
      have t1 : a.tmps[1]? = some (.int .i64 c) := t1
      refine stepY ((wanted_of 3 false 30 _ rfl rfl t30).trans rfl) ?_
      go_simp
      exact hK _ _ jE rfl (fun _ _ _ h => h)
    · refine stepL_of ?_
      rintro F a w1 jE ⟨h4, t31, h3, t30, -⟩ - K hK
      have h4 : (F 4) = .int .i64 c := h4
      rw [h4] at t31
      clear h4
      have h3 : (F 3) = .bool false := h3
      rw [h3] at t30
      clear h3
      refine stepY ((wanted_of 3 false 30 _ rfl rfl t30).trans rfl) ?_
      go_simp
      with_reducible refine (unhide (cc _)).mono ?_
      rintro e w2 ⟨rfl, rfl⟩
      exact hK _ _ jE (rfl) (fun _ _ _ h => h)
    · refine stepL_of ?_
      rintro F a w1 jE ⟨h5, t32, h3, t30, -⟩ - K hK
      have h5 : (F 5) = .bool false := h5
      rw [h5] at t32
      clear h5
      have h3 : (F 3) = .bool false := h3
      rw [h3] at t30
      clear h3
      refine stepY ((wanted_of 3 false 30 _ rfl rfl t30).trans rfl) ?_
      go_simp
      exact hK _ _ jE rfl (fun _ _ _ h => h)
    · refine stepL_plain rfl ?_
      rintro F a w1 jE ⟨h3, t30, h6, t33, -⟩ - K hK
      have h3 : (F 3) = .bool false := h3
      rw [h3] at t30
      clear h3
      have h6 : (F 6) = .bool true := h6
      rw [h6] at t33
      clear h6
      go_simp
      exact hK _ _ jE rfl (fun _ _ _ h => h)
    · refine stepL_plain rfl ?_
      rintro F a w1 jE ⟨h7, t34, -⟩ - K hK
      have h7 : (F 7) = .bool true := h7
      rw [h7] at t34
      clear h7
      go_simp
      exact hK _ _ jE rfl (fun _ _ _ h => h)
    · refine stepL_of ?_
      rintro F a w1 jE ⟨h8, t35, -⟩ ⟨t2, -⟩ K hK
      have h8 : (F 8) = .bool true := h8
      rw [h8] at t35
      clear h8
      have t2 : a.tmps[2]? = some (.int .i64 x) := t2
      exact stepN ((wanted_of 8 false 35 _ rfl rfl t35).trans rfl) (hK undef _ jE rfl (fun _ _ _ h => h))
    · refine stepL_of ?_
      rintro F a w1 jE ⟨h9, t36, h8, t35, -⟩ - K hK
      have h9 : (F 9) = undef := h9
      rw [h9] at t36
      clear h9
      have h8 : (F 8) = .bool true := h8
      rw [h8] at t35
      clear h8
      exact stepN ((wanted_of 8 false 35 _ rfl rfl t35).trans rfl) (hK undef _ jE rfl (fun _ _ _ h => h))
    · refine stepL_of ?_
      rintro F a w1 jE ⟨h10, t37, h8, t35, -⟩ - K hK
      have h10 : (F 10) = undef := h10
      rw [h10] at t37
      clear h10
      have h8 : (F 8) = .bool true := h8
      rw [h8] at t35
      clear h8
      exact stepN ((wanted_of 8 false 35 _ rfl rfl t35).trans rfl) (hK undef _ jE rfl (fun _ _ _ h => h))
    · refine stepL_plain rfl ?_
      rintro F a w1 jE ⟨h8, t35, h11, t38, -⟩ - K hK
      have h8 : (F 8) = .bool true := h8
      rw [h8] at t35
      clear h8
      have h11 : (F 11) = undef := h11
      rw [h11] at t38
      clear h11
      go_simp
      exact hK _ _ jE rfl (fun _ _ _ h => h)
    · refine stepL_plain rfl ?_
      rintro F a w1 jE ⟨h12, t39, -⟩ - K hK
      have h12 : (F 12) = .bool true := h12
      rw [h12] at t39
      clear h12
      go_simp
      exact hK _ _ jE rfl (fun _ _ _ h => h)
    · refine stepL_of ?_
      rintro F a w1 jE ⟨h13, t40, -⟩ ⟨t3, -⟩ K hK
      have h13 : (F 13) = .bool true := h13
      rw [h13] at t40
      clear h13
      have t3 : a.tmps[3]? = some (.int .i64 l) := t3
      exact stepN ((wanted_of 13 false 40 _ rfl rfl t40).trans rfl) (hK undef _ jE rfl (fun _ _ _ h => h))
    · refine stepL_of ?_
      rintro F a w1 jE ⟨h14, t41, h13, t40, -⟩ - K hK
      have h14 : (F 14) = undef := h14
      rw [h14] at t41
      clear h14
      have h13 : (F 13) = .bool true := h13
      rw [h13] at t40
      clear h13
      exact stepN ((wanted_of 13 false 40 _ rfl rfl t40).trans rfl) (hK undef _ jE rfl (fun _ _ _ h => h))
    · refine stepL_of ?_
      rintro F a w1 jE ⟨h15, t42, h13, t40, -⟩ - K hK
      have h15 : (F 15) = undef := h15
      rw [h15] at t42
      clear h15
      have h13 : (F 13) = .bool true := h13
      rw [h13] at t40
      clear h13
      exact stepN ((wanted_of 13 false 40 _ rfl rfl t40).trans rfl) (hK undef _ jE rfl (fun _ _ _ h => h))
    · refine stepL_plain rfl ?_
      rintro F a w1 jE ⟨h13, t40, h16, t43, -⟩ - K hK
      have h13 : (F 13) = .bool true := h13
      rw [h13] at t40
      clear h13
      have h16 : (F 16) = undef := h16
      rw [h16] at t43
      clear h16
      go_simp
      exact hK _ _ jE rfl (fun _ _ _ h => h)
    · refine stepL_plain rfl ?_
      rintro F a w1 jE ⟨h17, t44, -⟩ - K hK
      have h17 : (F 17) = .bool true := h17
      rw [h17] at t44
      clear h17
      go_simp
      exact hK _ _ jE rfl (fun _ _ _ h => h)
    · refine stepL_of ?_
      rintro F a w1 jE ⟨h18, t45, -⟩ ⟨t4, -⟩ K hK
      have h18 : (F 18) = .bool true := h18
      rw [h18] at t45
      clear h18
      have t4 : a.tmps[4]? = some (.int .i64 q) := t4
      exact stepN ((wanted_of 18 false 45 _ rfl rfl t45).trans rfl) (hK undef _ jE rfl (fun _ _ _ h => h))
    · refine stepL_of ?_
      rintro F a w1 jE ⟨h19, t46, h18, t45, -⟩ - K hK
      have h19 : (F 19) = undef := h19
      rw [h19] at t46
      clear h19
      have h18 : (F 18) = .bool true := h18
      rw [h18] at t45
      clear h18
      exact stepN ((wanted_of 18 false 45 _ rfl rfl t45).trans rfl) (hK undef _ jE rfl (fun _ _ _ h => h))
    · refine stepL_of ?_
      rintro F a w1 jE ⟨h20, t47, h18, t45, -⟩ - K hK
      have h20 : (F 20) = undef := h20
      rw [h20] at t47
      clear h20
      have h18 : (F 18) = .bool true := h18
      rw [h18] at t45
      clear h18
      exact stepN ((wanted_of 18 false 45 _ rfl rfl t45).trans rfl) (hK undef _ jE rfl (fun _ _ _ h => h))
    · refine stepL_plain rfl ?_
      rintro F a w1 jE ⟨h18, t45, h21, t48, -⟩ - K hK
      have h18 : (F 18) = .bool true := h18
      rw [h18] at t45
      clear h18
      have h21 : (F 21) = undef := h21
      rw [h21] at t48
      clear h21
      go_simp
      exact hK _ _ jE rfl (fun _ _ _ h => h)
  · rintro F wb jE ⟨h22, -⟩
    have h22 : (F 22) = .bool true := h22
    have hx := jE.ext (Ext.refl _) (by simp)
    replace E0 := E0.trans hx
    clear jE hx Bs
    simp only [putL, Act.put, Nat.reduceAdd, Nat.zero_add, List.setIfInBounds_toArray, List.set_cons_succ, List.set_cons_zero]
    rw [h22]
    clear h22 cM cc
    go_upto_region 2 with fail
    go_wp2_with fail
    with_reducible refine (works_any _).mono ?_
    rintro e w5 ⟨rfl, hx⟩
    go_wp2_with fail
    go_ret
    exact ⟨rfl, E0.trans hx⟩

set_option maxRecDepth 100000 in
set_option maxHeartbeats 16000000 in
theorem plays_2 (s : Sty) (c x l q : Int) (hM : mayB s = true) (hc : (-1099511627776 ≤ c ∧ c ≤ 1099511627776)) (hx : ¬ (-1099511627776 ≤ x ∧ x ≤ 1099511627776)) (w : World) :
    Calls Try.prog 6 #[.agg s.cells, .int .i64 c, .int .i64 x, .int .i64 l, .int .i64 q] w fun e w' => e = .returned (.bool true) ∧ Ext w w' := by
  have cM := fun w => hide (may_t s hM w)
  have cc := fun w => hide (within_t c hc.1 hc.2 w)
  have cx := fun w => hide (within_f x hx w)
  go_enter Try.func6, Try.ntmps6
  go_upto_region 1 with fail
  have Bs : Blk (w.alloc (.cells s.cells 28)) w.heap.size 28 s.cells := Blk.new _ _ _
  have E0 : Ext w (w.alloc (.cells s.cells 28)) := (Ext.refl _).alloc _
  generalize (w.alloc (.cells s.cells 28)) = wa at *
  generalize hgs : w.heap.size = g at *
  have HGS := hide hgs
  clear hgs
  refine wp_region_lin0 (fun w' => (ExtX wa w' [])) (fun ii vv ww => match ii with | 0 => vv = (.agg s.cells) | 1 => vv = .bool true | 2 => vv = .bool false | 3 => vv = .bool false | 4 => vv = .int .i64 c | 5 => vv = .bool true | 6 => vv = .bool false | 7 => vv = .bool false | 8 => vv = .bool false | 9 => vv = .int .i64 x | 10 => vv = .bool false | 11 => vv = .bool true | 12 => vv = .bool true | 13 => vv = .bool true | 14 => vv = undef | 15 => vv = undef | 16 => vv = undef | 17 => vv = .bool true | 18 => vv = .bool true | 19 => vv = undef | 20 => vv = undef | 21 => vv = undef | 22 => vv = .bool true | _ => True) (fun ii => match ii with | 1 => [(0, 27)] | 2 => [(1, 28)] | 3 => [(2, 29)] | 4 => [(3, 30)] | 5 => [(4, 31), (3, 30)] | 6 => [(5, 32), (3, 30)] | 7 => [(3, 30), (6, 33)] | 8 => [(7, 34)] | 9 => [(8, 35)] | 10 => [(9, 36), (8, 35)] | 11 => [(10, 37), (8, 35)] | 12 => [(8, 35), (11, 38)] | 13 => [(12, 39)] | 14 => [(13, 40)] | 15 => [(14, 41), (13, 40)] | 16 => [(15, 42), (13, 40)] | 17 => [(13, 40), (16, 43)] | 18 => [(17, 44)] | 19 => [(18, 45)] | 20 => [(19, 46), (18, 45)] | 21 => [(20, 47), (18, 45)] | 22 => [(18, 45), (21, 48)] | _ => []) (fun ii => match ii with | 0 => [5] | 4 => [1] | 9 => [2] | 14 => [3] | 19 => [4] | _ => []) (fun ii => match ii with | 4 => [3] | 5 => [3] | 6 => [3] | 9 => [8] | 10 => [8] | 11 => [8] | 14 => [13] | 15 => [13] | 16 => [13] | 19 => [18] | 20 => [18] | 21 => [18] | _ => []) [22] [0, 1, 3, 7, 15, 31, 63, 127, 255, 511, 1023, 2047, 4095, 8191, 16383, 32767, 65535, 131071, 262143, 524287, 1048575, 2097151, 4194303] 155 rfl (by kernel_rfl) (ExtX.refl _ _) ?_ ?_
  · rename_i hcont; clear hcont
    refine ⟨?_, ?_, ?_, ?_, ?_, ?_, ?_, ?_, ?_, ?_, ?_, ?_, ?_, ?_, ?_, ?_, ?_, ?_, ?_, ?_, ?_, ?_, ?_, trivial⟩
    · refine stepL_plain rfl ?_
      rintro F a w1 jE - ⟨t5, -⟩ K hK
      have t5 : a.tmps[5]? = some (.pointer (some ⟨g, 0, none⟩)) := t5
      have c := (jE.blk Bs (by simp)).cell
      refine wp_load_blk 28 _ rfl g (eval_tmp t5) 28 s.cells _ (jE.blk Bs (by simp)) Try.underlying28 rfl (info_style s) ?_
      exact hK _ _ jE rfl (fun _ _ _ h => h)
    · refine stepL_plain rfl ?_
      rintro F a w1 jE ⟨h0, t27, -⟩ - K hK
      have h0 : (F 0) = (.agg s.cells) := h0
      rw [h0] at t27
      clear h0
      go_simp
      with_reducible refine (unhide (cM _)).mono ?_
      rintro e w2 ⟨rfl, hx⟩
      exact hK _ _ (jE.trans hx) (rfl) (fun _ hj _ _ => (List.not_mem_nil hj).elim)
    · refine stepL_plain rfl ?_
      rintro F a w1 jE ⟨h1, t28, -⟩ - K hK
      have h1 : (F 1) = .bool true := h1
      rw [h1] at t28
      clear h1
      go_simp
      exact hK _ _ jE rfl (fun _ _ _ h => h)
    · refine stepL_plain rfl ?_
      rintro F a w1 jE ⟨h2, t29, -⟩ - K hK
      have h2 : (F 2) = .bool false := h2
      rw [h2] at t29
      clear h2
      go_simp
      exact hK _ _ jE rfl (fun _ _ _ h => h)
    · refine stepL_of ?_
      rintro F a w1 jE ⟨h3, t30, -⟩ ⟨t1, -⟩ K hK
      have h3 : (F 3) = .bool false := h3
      rw [h3] at t30
      clear h3
      have t1 : a.tmps[1]? = some (.int .i64 c) := t1
      refine stepY ((wanted_of 3 false 30 _ rfl rfl t30).trans rfl) ?_
      go_simp
      exact hK _ _ jE rfl (fun _ _ _ h => h)
    · refine stepL_of ?_
      rintro F a w1 jE ⟨h4, t31, h3, t30, -⟩ - K hK
      have h4 : (F 4) = .int .i64 c := h4
      rw [h4] at t31
      clear h4
      have h3 : (F 3) = .bool false := h3
      rw [h3] at t30
      clear h3
      refine stepY ((wanted_of 3 false 30 _ rfl rfl t30).trans rfl) ?_
      go_simp
      with_reducible refine (unhide (cc _)).mono ?_
      rintro e w2 ⟨rfl, rfl⟩
      exact hK _ _ jE (rfl) (fun _ _ _ h => h)
    · refine stepL_of ?_
      rintro F a w1 jE ⟨h5, t32, h3, t30, -⟩ - K hK
      have h5 : (F 5) = .bool true := h5
      rw [h5] at t32
      clear h5
      have h3 : (F 3) = .bool false := h3
      rw [h3] at t30
      clear h3
      refine stepY ((wanted_of 3 false 30 _ rfl rfl t30).trans rfl) ?_
      go_simp
      exact hK _ _ jE rfl (fun _ _ _ h => h)
    · refine stepL_plain rfl ?_
      rintro F a w1 jE ⟨h3, t30, h6, t33, -⟩ - K hK
      have h3 : (F 3) = .bool false := h3
      rw [h3] at t30
      clear h3
      have h6 : (F 6) = .bool false := h6
      rw [h6] at t33
      clear h6
      go_simp
      exact hK _ _ jE rfl (fun _ _ _ h => h)
    · refine stepL_plain rfl ?_
      rintro F a w1 jE ⟨h7, t34, -⟩ - K hK
      have h7 : (F 7) = .bool false := h7
      rw [h7] at t34
      clear h7
      go_simp
      exact hK _ _ jE rfl (fun _ _ _ h => h)
    · refine stepL_of ?_
      rintro F a w1 jE ⟨h8, t35, -⟩ ⟨t2, -⟩ K hK
      have h8 : (F 8) = .bool false := h8
      rw [h8] at t35
      clear h8
      have t2 : a.tmps[2]? = some (.int .i64 x) := t2
      refine stepY ((wanted_of 8 false 35 _ rfl rfl t35).trans rfl) ?_
      go_simp
      exact hK _ _ jE rfl (fun _ _ _ h => h)
    · refine stepL_of ?_
      rintro F a w1 jE ⟨h9, t36, h8, t35, -⟩ - K hK
      have h9 : (F 9) = .int .i64 x := h9
      rw [h9] at t36
      clear h9
      have h8 : (F 8) = .bool false := h8
      rw [h8] at t35
      clear h8
      refine stepY ((wanted_of 8 false 35 _ rfl rfl t35).trans rfl) ?_
      go_simp
      with_reducible refine (unhide (cx _)).mono ?_
      rintro e w2 ⟨rfl, rfl⟩
      exact hK _ _ jE (rfl) (fun _ _ _ h => h)
    · refine stepL_of ?_
      rintro F a w1 jE ⟨h10, t37, h8, t35, -⟩ - K hK
      have h10 : (F 10) = .bool false := h10
      rw [h10] at t37
      clear h10
      have h8 : (F 8) = .bool false := h8
      rw [h8] at t35
      clear h8
      refine stepY ((wanted_of 8 false 35 _ rfl rfl t35).trans rfl) ?_
      go_simp
      exact hK _ _ jE rfl (fun _ _ _ h => h)
    · refine stepL_plain rfl ?_
      rintro F a w1 jE ⟨h8, t35, h11, t38, -⟩ - K hK
      have h8 : (F 8) = .bool false := h8
      rw [h8] at t35
      clear h8
      have h11 : (F 11) = .bool true := h11
      rw [h11] at t38
      clear h11
      go_simp
      exact hK _ _ jE rfl (fun _ _ _ h => h)
    · refine stepL_plain rfl ?_
      rintro F a w1 jE ⟨h12, t39, -⟩ - K hK
      have h12 : (F 12) = .bool true := h12
      rw [h12] at t39
      clear h12
      go_simp
      exact hK _ _ jE rfl (fun _ _ _ h => h)
    · refine stepL_of ?_
      rintro F a w1 jE ⟨h13, t40, -⟩ ⟨t3, -⟩ K hK
      have h13 : (F 13) = .bool true := h13
      rw [h13] at t40
      clear h13
      have t3 : a.tmps[3]? = some (.int .i64 l) := t3
      exact stepN ((wanted_of 13 false 40 _ rfl rfl t40).trans rfl) (hK undef _ jE rfl (fun _ _ _ h => h))
    · refine stepL_of ?_
      rintro F a w1 jE ⟨h14, t41, h13, t40, -⟩ - K hK
      have h14 : (F 14) = undef := h14
      rw [h14] at t41
      clear h14
      have h13 : (F 13) = .bool true := h13
      rw [h13] at t40
      clear h13
      exact stepN ((wanted_of 13 false 40 _ rfl rfl t40).trans rfl) (hK undef _ jE rfl (fun _ _ _ h => h))
    · refine stepL_of ?_
      rintro F a w1 jE ⟨h15, t42, h13, t40, -⟩ - K hK
      have h15 : (F 15) = undef := h15
      rw [h15] at t42
      clear h15
      have h13 : (F 13) = .bool true := h13
      rw [h13] at t40
      clear h13
      exact stepN ((wanted_of 13 false 40 _ rfl rfl t40).trans rfl) (hK undef _ jE rfl (fun _ _ _ h => h))
    · refine stepL_plain rfl ?_
      rintro F a w1 jE ⟨h13, t40, h16, t43, -⟩ - K hK
      have h13 : (F 13) = .bool true := h13
      rw [h13] at t40
      clear h13
      have h16 : (F 16) = undef := h16
      rw [h16] at t43
      clear h16
      go_simp
      exact hK _ _ jE rfl (fun _ _ _ h => h)
    · refine stepL_plain rfl ?_
      rintro F a w1 jE ⟨h17, t44, -⟩ - K hK
      have h17 : (F 17) = .bool true := h17
      rw [h17] at t44
      clear h17
      go_simp
      exact hK _ _ jE rfl (fun _ _ _ h => h)
    · refine stepL_of ?_
      rintro F a w1 jE ⟨h18, t45, -⟩ ⟨t4, -⟩ K hK
      have h18 : (F 18) = .bool true := h18
      rw [h18] at t45
      clear h18
      have t4 : a.tmps[4]? = some (.int .i64 q) := t4
      exact stepN ((wanted_of 18 false 45 _ rfl rfl t45).trans rfl) (hK undef _ jE rfl (fun _ _ _ h => h))
    · refine stepL_of ?_
      rintro F a w1 jE ⟨h19, t46, h18, t45, -⟩ - K hK
      have h19 : (F 19) = undef := h19
      rw [h19] at t46
      clear h19
      have h18 : (F 18) = .bool true := h18
      rw [h18] at t45
      clear h18
      exact stepN ((wanted_of 18 false 45 _ rfl rfl t45).trans rfl) (hK undef _ jE rfl (fun _ _ _ h => h))
    · refine stepL_of ?_
      rintro F a w1 jE ⟨h20, t47, h18, t45, -⟩ - K hK
      have h20 : (F 20) = undef := h20
      rw [h20] at t47
      clear h20
      have h18 : (F 18) = .bool true := h18
      rw [h18] at t45
      clear h18
      exact stepN ((wanted_of 18 false 45 _ rfl rfl t45).trans rfl) (hK undef _ jE rfl (fun _ _ _ h => h))
    · refine stepL_plain rfl ?_
      rintro F a w1 jE ⟨h18, t45, h21, t48, -⟩ - K hK
      have h18 : (F 18) = .bool true := h18
      rw [h18] at t45
      clear h18
      have h21 : (F 21) = undef := h21
      rw [h21] at t48
      clear h21
      go_simp
      exact hK _ _ jE rfl (fun _ _ _ h => h)
  · rintro F wb jE ⟨h22, -⟩
    have h22 : (F 22) = .bool true := h22
    have hx := jE.ext (Ext.refl _) (by simp)
    replace E0 := E0.trans hx
    clear jE hx Bs
    simp only [putL, Act.put, Nat.reduceAdd, Nat.zero_add, List.setIfInBounds_toArray, List.set_cons_succ, List.set_cons_zero]
    rw [h22]
    clear h22 cM cc cx
    go_upto_region 2 with fail
    go_wp2_with fail
    with_reducible refine (works_any _).mono ?_
    rintro e w5 ⟨rfl, hx⟩
    go_wp2_with fail
    go_ret
    exact ⟨rfl, E0.trans hx⟩

set_option maxRecDepth 100000 in
set_option maxHeartbeats 16000000 in
theorem plays_3 (s : Sty) (c x l q : Int) (hM : mayB s = true) (hc : (-1099511627776 ≤ c ∧ c ≤ 1099511627776)) (hx : (-1099511627776 ≤ x ∧ x ≤ 1099511627776)) (hl : ¬ (-1099511627776 ≤ l ∧ l ≤ 1099511627776)) (w : World) :
    Calls Try.prog 6 #[.agg s.cells, .int .i64 c, .int .i64 x, .int .i64 l, .int .i64 q] w fun e w' => e = .returned (.bool true) ∧ Ext w w' := by
  have cM := fun w => hide (may_t s hM w)
  have cc := fun w => hide (within_t c hc.1 hc.2 w)
  have cx := fun w => hide (within_t x hx.1 hx.2 w)
  have cl := fun w => hide (within_f l hl w)
  go_enter Try.func6, Try.ntmps6
  go_upto_region 1 with fail
  have Bs : Blk (w.alloc (.cells s.cells 28)) w.heap.size 28 s.cells := Blk.new _ _ _
  have E0 : Ext w (w.alloc (.cells s.cells 28)) := (Ext.refl _).alloc _
  generalize (w.alloc (.cells s.cells 28)) = wa at *
  generalize hgs : w.heap.size = g at *
  have HGS := hide hgs
  clear hgs
  refine wp_region_lin0 (fun w' => (ExtX wa w' [])) (fun ii vv ww => match ii with | 0 => vv = (.agg s.cells) | 1 => vv = .bool true | 2 => vv = .bool false | 3 => vv = .bool false | 4 => vv = .int .i64 c | 5 => vv = .bool true | 6 => vv = .bool false | 7 => vv = .bool false | 8 => vv = .bool false | 9 => vv = .int .i64 x | 10 => vv = .bool true | 11 => vv = .bool false | 12 => vv = .bool false | 13 => vv = .bool false | 14 => vv = .int .i64 l | 15 => vv = .bool false | 16 => vv = .bool true | 17 => vv = .bool true | 18 => vv = .bool true | 19 => vv = undef | 20 => vv = undef | 21 => vv = undef | 22 => vv = .bool true | _ => True) (fun ii => match ii with | 1 => [(0, 27)] | 2 => [(1, 28)] | 3 => [(2, 29)] | 4 => [(3, 30)] | 5 => [(4, 31), (3, 30)] | 6 => [(5, 32), (3, 30)] | 7 => [(3, 30), (6, 33)] | 8 => [(7, 34)] | 9 => [(8, 35)] | 10 => [(9, 36), (8, 35)] | 11 => [(10, 37), (8, 35)] | 12 => [(8, 35), (11, 38)] | 13 => [(12, 39)] | 14 => [(13, 40)] | 15 => [(14, 41), (13, 40)] | 16 => [(15, 42), (13, 40)] | 17 => [(13, 40), (16, 43)] | 18 => [(17, 44)] | 19 => [(18, 45)] | 20 => [(19, 46), (18, 45)] | 21 => [(20, 47), (18, 45)] | 22 => [(18, 45), (21, 48)] | _ => []) (fun ii => match ii with | 0 => [5] | 4 => [1] | 9 => [2] | 14 => [3] | 19 => [4] | _ => []) (fun ii => match ii with | 4 => [3] | 5 => [3] | 6 => [3] | 9 => [8] | 10 => [8] | 11 => [8] | 14 => [13] | 15 => [13] | 16 => [13] | 19 => [18] | 20 => [18] | 21 => [18] | _ => []) [22] [0, 1, 3, 7, 15, 31, 63, 127, 255, 511, 1023, 2047, 4095, 8191, 16383, 32767, 65535, 131071, 262143, 524287, 1048575, 2097151, 4194303] 155 rfl (by kernel_rfl) (ExtX.refl _ _) ?_ ?_
  · rename_i hcont; clear hcont
    refine ⟨?_, ?_, ?_, ?_, ?_, ?_, ?_, ?_, ?_, ?_, ?_, ?_, ?_, ?_, ?_, ?_, ?_, ?_, ?_, ?_, ?_, ?_, ?_, trivial⟩
    · refine stepL_plain rfl ?_
      rintro F a w1 jE - ⟨t5, -⟩ K hK
      have t5 : a.tmps[5]? = some (.pointer (some ⟨g, 0, none⟩)) := t5
      have c := (jE.blk Bs (by simp)).cell
      refine wp_load_blk 28 _ rfl g (eval_tmp t5) 28 s.cells _ (jE.blk Bs (by simp)) Try.underlying28 rfl (info_style s) ?_
      exact hK _ _ jE rfl (fun _ _ _ h => h)
    · refine stepL_plain rfl ?_
      rintro F a w1 jE ⟨h0, t27, -⟩ - K hK
      have h0 : (F 0) = (.agg s.cells) := h0
      rw [h0] at t27
      clear h0
      go_simp
      with_reducible refine (unhide (cM _)).mono ?_
      rintro e w2 ⟨rfl, hx⟩
      exact hK _ _ (jE.trans hx) (rfl) (fun _ hj _ _ => (List.not_mem_nil hj).elim)
    · refine stepL_plain rfl ?_
      rintro F a w1 jE ⟨h1, t28, -⟩ - K hK
      have h1 : (F 1) = .bool true := h1
      rw [h1] at t28
      clear h1
      go_simp
      exact hK _ _ jE rfl (fun _ _ _ h => h)
    · refine stepL_plain rfl ?_
      rintro F a w1 jE ⟨h2, t29, -⟩ - K hK
      have h2 : (F 2) = .bool false := h2
      rw [h2] at t29
      clear h2
      go_simp
      exact hK _ _ jE rfl (fun _ _ _ h => h)
    · refine stepL_of ?_
      rintro F a w1 jE ⟨h3, t30, -⟩ ⟨t1, -⟩ K hK
      have h3 : (F 3) = .bool false := h3
      rw [h3] at t30
      clear h3
      have t1 : a.tmps[1]? = some (.int .i64 c) := t1
      refine stepY ((wanted_of 3 false 30 _ rfl rfl t30).trans rfl) ?_
      go_simp
      exact hK _ _ jE rfl (fun _ _ _ h => h)
    · refine stepL_of ?_
      rintro F a w1 jE ⟨h4, t31, h3, t30, -⟩ - K hK
      have h4 : (F 4) = .int .i64 c := h4
      rw [h4] at t31
      clear h4
      have h3 : (F 3) = .bool false := h3
      rw [h3] at t30
      clear h3
      refine stepY ((wanted_of 3 false 30 _ rfl rfl t30).trans rfl) ?_
      go_simp
      with_reducible refine (unhide (cc _)).mono ?_
      rintro e w2 ⟨rfl, rfl⟩
      exact hK _ _ jE (rfl) (fun _ _ _ h => h)
    · refine stepL_of ?_
      rintro F a w1 jE ⟨h5, t32, h3, t30, -⟩ - K hK
      have h5 : (F 5) = .bool true := h5
      rw [h5] at t32
      clear h5
      have h3 : (F 3) = .bool false := h3
      rw [h3] at t30
      clear h3
      refine stepY ((wanted_of 3 false 30 _ rfl rfl t30).trans rfl) ?_
      go_simp
      exact hK _ _ jE rfl (fun _ _ _ h => h)
    · refine stepL_plain rfl ?_
      rintro F a w1 jE ⟨h3, t30, h6, t33, -⟩ - K hK
      have h3 : (F 3) = .bool false := h3
      rw [h3] at t30
      clear h3
      have h6 : (F 6) = .bool false := h6
      rw [h6] at t33
      clear h6
      go_simp
      exact hK _ _ jE rfl (fun _ _ _ h => h)
    · refine stepL_plain rfl ?_
      rintro F a w1 jE ⟨h7, t34, -⟩ - K hK
      have h7 : (F 7) = .bool false := h7
      rw [h7] at t34
      clear h7
      go_simp
      exact hK _ _ jE rfl (fun _ _ _ h => h)
    · refine stepL_of ?_
      rintro F a w1 jE ⟨h8, t35, -⟩ ⟨t2, -⟩ K hK
      have h8 : (F 8) = .bool false := h8
      rw [h8] at t35
      clear h8
      have t2 : a.tmps[2]? = some (.int .i64 x) := t2
      refine stepY ((wanted_of 8 false 35 _ rfl rfl t35).trans rfl) ?_
      go_simp
      exact hK _ _ jE rfl (fun _ _ _ h => h)
    · refine stepL_of ?_
      rintro F a w1 jE ⟨h9, t36, h8, t35, -⟩ - K hK
      have h9 : (F 9) = .int .i64 x := h9
      rw [h9] at t36
      clear h9
      have h8 : (F 8) = .bool false := h8
      rw [h8] at t35
      clear h8
      refine stepY ((wanted_of 8 false 35 _ rfl rfl t35).trans rfl) ?_
      go_simp
      with_reducible refine (unhide (cx _)).mono ?_
      rintro e w2 ⟨rfl, rfl⟩
      exact hK _ _ jE (rfl) (fun _ _ _ h => h)
    · refine stepL_of ?_
      rintro F a w1 jE ⟨h10, t37, h8, t35, -⟩ - K hK
      have h10 : (F 10) = .bool true := h10
      rw [h10] at t37
      clear h10
      have h8 : (F 8) = .bool false := h8
      rw [h8] at t35
      clear h8
      refine stepY ((wanted_of 8 false 35 _ rfl rfl t35).trans rfl) ?_
      go_simp
      exact hK _ _ jE rfl (fun _ _ _ h => h)
    · refine stepL_plain rfl ?_
      rintro F a w1 jE ⟨h8, t35, h11, t38, -⟩ - K hK
      have h8 : (F 8) = .bool false := h8
      rw [h8] at t35
      clear h8
      have h11 : (F 11) = .bool false := h11
      rw [h11] at t38
      clear h11
      go_simp
      exact hK _ _ jE rfl (fun _ _ _ h => h)
    · refine stepL_plain rfl ?_
      rintro F a w1 jE ⟨h12, t39, -⟩ - K hK
      have h12 : (F 12) = .bool false := h12
      rw [h12] at t39
      clear h12
      go_simp
      exact hK _ _ jE rfl (fun _ _ _ h => h)
    · refine stepL_of ?_
      rintro F a w1 jE ⟨h13, t40, -⟩ ⟨t3, -⟩ K hK
      have h13 : (F 13) = .bool false := h13
      rw [h13] at t40
      clear h13
      have t3 : a.tmps[3]? = some (.int .i64 l) := t3
      refine stepY ((wanted_of 13 false 40 _ rfl rfl t40).trans rfl) ?_
      go_simp
      exact hK _ _ jE rfl (fun _ _ _ h => h)
    · refine stepL_of ?_
      rintro F a w1 jE ⟨h14, t41, h13, t40, -⟩ - K hK
      have h14 : (F 14) = .int .i64 l := h14
      rw [h14] at t41
      clear h14
      have h13 : (F 13) = .bool false := h13
      rw [h13] at t40
      clear h13
      refine stepY ((wanted_of 13 false 40 _ rfl rfl t40).trans rfl) ?_
      go_simp
      with_reducible refine (unhide (cl _)).mono ?_
      rintro e w2 ⟨rfl, rfl⟩
      exact hK _ _ jE (rfl) (fun _ _ _ h => h)
    · refine stepL_of ?_
      rintro F a w1 jE ⟨h15, t42, h13, t40, -⟩ - K hK
      have h15 : (F 15) = .bool false := h15
      rw [h15] at t42
      clear h15
      have h13 : (F 13) = .bool false := h13
      rw [h13] at t40
      clear h13
      refine stepY ((wanted_of 13 false 40 _ rfl rfl t40).trans rfl) ?_
      go_simp
      exact hK _ _ jE rfl (fun _ _ _ h => h)
    · refine stepL_plain rfl ?_
      rintro F a w1 jE ⟨h13, t40, h16, t43, -⟩ - K hK
      have h13 : (F 13) = .bool false := h13
      rw [h13] at t40
      clear h13
      have h16 : (F 16) = .bool true := h16
      rw [h16] at t43
      clear h16
      go_simp
      exact hK _ _ jE rfl (fun _ _ _ h => h)
    · refine stepL_plain rfl ?_
      rintro F a w1 jE ⟨h17, t44, -⟩ - K hK
      have h17 : (F 17) = .bool true := h17
      rw [h17] at t44
      clear h17
      go_simp
      exact hK _ _ jE rfl (fun _ _ _ h => h)
    · refine stepL_of ?_
      rintro F a w1 jE ⟨h18, t45, -⟩ ⟨t4, -⟩ K hK
      have h18 : (F 18) = .bool true := h18
      rw [h18] at t45
      clear h18
      have t4 : a.tmps[4]? = some (.int .i64 q) := t4
      exact stepN ((wanted_of 18 false 45 _ rfl rfl t45).trans rfl) (hK undef _ jE rfl (fun _ _ _ h => h))
    · refine stepL_of ?_
      rintro F a w1 jE ⟨h19, t46, h18, t45, -⟩ - K hK
      have h19 : (F 19) = undef := h19
      rw [h19] at t46
      clear h19
      have h18 : (F 18) = .bool true := h18
      rw [h18] at t45
      clear h18
      exact stepN ((wanted_of 18 false 45 _ rfl rfl t45).trans rfl) (hK undef _ jE rfl (fun _ _ _ h => h))
    · refine stepL_of ?_
      rintro F a w1 jE ⟨h20, t47, h18, t45, -⟩ - K hK
      have h20 : (F 20) = undef := h20
      rw [h20] at t47
      clear h20
      have h18 : (F 18) = .bool true := h18
      rw [h18] at t45
      clear h18
      exact stepN ((wanted_of 18 false 45 _ rfl rfl t45).trans rfl) (hK undef _ jE rfl (fun _ _ _ h => h))
    · refine stepL_plain rfl ?_
      rintro F a w1 jE ⟨h18, t45, h21, t48, -⟩ - K hK
      have h18 : (F 18) = .bool true := h18
      rw [h18] at t45
      clear h18
      have h21 : (F 21) = undef := h21
      rw [h21] at t48
      clear h21
      go_simp
      exact hK _ _ jE rfl (fun _ _ _ h => h)
  · rintro F wb jE ⟨h22, -⟩
    have h22 : (F 22) = .bool true := h22
    have hx := jE.ext (Ext.refl _) (by simp)
    replace E0 := E0.trans hx
    clear jE hx Bs
    simp only [putL, Act.put, Nat.reduceAdd, Nat.zero_add, List.setIfInBounds_toArray, List.set_cons_succ, List.set_cons_zero]
    rw [h22]
    clear h22 cM cc cx cl
    go_upto_region 2 with fail
    go_wp2_with fail
    with_reducible refine (works_any _).mono ?_
    rintro e w5 ⟨rfl, hx⟩
    go_wp2_with fail
    go_ret
    exact ⟨rfl, E0.trans hx⟩

set_option maxRecDepth 100000 in
set_option maxHeartbeats 16000000 in
theorem plays_4 (s : Sty) (c x l q : Int) (hM : mayB s = true) (hc : (-1099511627776 ≤ c ∧ c ≤ 1099511627776)) (hx : (-1099511627776 ≤ x ∧ x ≤ 1099511627776)) (hl : (-1099511627776 ≤ l ∧ l ≤ 1099511627776)) (hq : ¬ (-1099511627776 ≤ q ∧ q ≤ 1099511627776)) (w : World) :
    Calls Try.prog 6 #[.agg s.cells, .int .i64 c, .int .i64 x, .int .i64 l, .int .i64 q] w fun e w' => e = .returned (.bool true) ∧ Ext w w' := by
  have cM := fun w => hide (may_t s hM w)
  have cc := fun w => hide (within_t c hc.1 hc.2 w)
  have cx := fun w => hide (within_t x hx.1 hx.2 w)
  have cl := fun w => hide (within_t l hl.1 hl.2 w)
  have cq := fun w => hide (within_f q hq w)
  go_enter Try.func6, Try.ntmps6
  go_upto_region 1 with fail
  have Bs : Blk (w.alloc (.cells s.cells 28)) w.heap.size 28 s.cells := Blk.new _ _ _
  have E0 : Ext w (w.alloc (.cells s.cells 28)) := (Ext.refl _).alloc _
  generalize (w.alloc (.cells s.cells 28)) = wa at *
  generalize hgs : w.heap.size = g at *
  have HGS := hide hgs
  clear hgs
  refine wp_region_lin0 (fun w' => (ExtX wa w' [])) (fun ii vv ww => match ii with | 0 => vv = (.agg s.cells) | 1 => vv = .bool true | 2 => vv = .bool false | 3 => vv = .bool false | 4 => vv = .int .i64 c | 5 => vv = .bool true | 6 => vv = .bool false | 7 => vv = .bool false | 8 => vv = .bool false | 9 => vv = .int .i64 x | 10 => vv = .bool true | 11 => vv = .bool false | 12 => vv = .bool false | 13 => vv = .bool false | 14 => vv = .int .i64 l | 15 => vv = .bool true | 16 => vv = .bool false | 17 => vv = .bool false | 18 => vv = .bool false | 19 => vv = .int .i64 q | 20 => vv = .bool false | 21 => vv = .bool true | 22 => vv = .bool true | _ => True) (fun ii => match ii with | 1 => [(0, 27)] | 2 => [(1, 28)] | 3 => [(2, 29)] | 4 => [(3, 30)] | 5 => [(4, 31), (3, 30)] | 6 => [(5, 32), (3, 30)] | 7 => [(3, 30), (6, 33)] | 8 => [(7, 34)] | 9 => [(8, 35)] | 10 => [(9, 36), (8, 35)] | 11 => [(10, 37), (8, 35)] | 12 => [(8, 35), (11, 38)] | 13 => [(12, 39)] | 14 => [(13, 40)] | 15 => [(14, 41), (13, 40)] | 16 => [(15, 42), (13, 40)] | 17 => [(13, 40), (16, 43)] | 18 => [(17, 44)] | 19 => [(18, 45)] | 20 => [(19, 46), (18, 45)] | 21 => [(20, 47), (18, 45)] | 22 => [(18, 45), (21, 48)] | _ => []) (fun ii => match ii with | 0 => [5] | 4 => [1] | 9 => [2] | 14 => [3] | 19 => [4] | _ => []) (fun ii => match ii with | 4 => [3] | 5 => [3] | 6 => [3] | 9 => [8] | 10 => [8] | 11 => [8] | 14 => [13] | 15 => [13] | 16 => [13] | 19 => [18] | 20 => [18] | 21 => [18] | _ => []) [22] [0, 1, 3, 7, 15, 31, 63, 127, 255, 511, 1023, 2047, 4095, 8191, 16383, 32767, 65535, 131071, 262143, 524287, 1048575, 2097151, 4194303] 155 rfl (by kernel_rfl) (ExtX.refl _ _) ?_ ?_
  · rename_i hcont; clear hcont
    refine ⟨?_, ?_, ?_, ?_, ?_, ?_, ?_, ?_, ?_, ?_, ?_, ?_, ?_, ?_, ?_, ?_, ?_, ?_, ?_, ?_, ?_, ?_, ?_, trivial⟩
    · refine stepL_plain rfl ?_
      rintro F a w1 jE - ⟨t5, -⟩ K hK
      have t5 : a.tmps[5]? = some (.pointer (some ⟨g, 0, none⟩)) := t5
      have c := (jE.blk Bs (by simp)).cell
      refine wp_load_blk 28 _ rfl g (eval_tmp t5) 28 s.cells _ (jE.blk Bs (by simp)) Try.underlying28 rfl (info_style s) ?_
      exact hK _ _ jE rfl (fun _ _ _ h => h)
    · refine stepL_plain rfl ?_
      rintro F a w1 jE ⟨h0, t27, -⟩ - K hK
      have h0 : (F 0) = (.agg s.cells) := h0
      rw [h0] at t27
      clear h0
      go_simp
      with_reducible refine (unhide (cM _)).mono ?_
      rintro e w2 ⟨rfl, hx⟩
      exact hK _ _ (jE.trans hx) (rfl) (fun _ hj _ _ => (List.not_mem_nil hj).elim)
    · refine stepL_plain rfl ?_
      rintro F a w1 jE ⟨h1, t28, -⟩ - K hK
      have h1 : (F 1) = .bool true := h1
      rw [h1] at t28
      clear h1
      go_simp
      exact hK _ _ jE rfl (fun _ _ _ h => h)
    · refine stepL_plain rfl ?_
      rintro F a w1 jE ⟨h2, t29, -⟩ - K hK
      have h2 : (F 2) = .bool false := h2
      rw [h2] at t29
      clear h2
      go_simp
      exact hK _ _ jE rfl (fun _ _ _ h => h)
    · refine stepL_of ?_
      rintro F a w1 jE ⟨h3, t30, -⟩ ⟨t1, -⟩ K hK
      have h3 : (F 3) = .bool false := h3
      rw [h3] at t30
      clear h3
      have t1 : a.tmps[1]? = some (.int .i64 c) := t1
      refine stepY ((wanted_of 3 false 30 _ rfl rfl t30).trans rfl) ?_
      go_simp
      exact hK _ _ jE rfl (fun _ _ _ h => h)
    · refine stepL_of ?_
      rintro F a w1 jE ⟨h4, t31, h3, t30, -⟩ - K hK
      have h4 : (F 4) = .int .i64 c := h4
      rw [h4] at t31
      clear h4
      have h3 : (F 3) = .bool false := h3
      rw [h3] at t30
      clear h3
      refine stepY ((wanted_of 3 false 30 _ rfl rfl t30).trans rfl) ?_
      go_simp
      with_reducible refine (unhide (cc _)).mono ?_
      rintro e w2 ⟨rfl, rfl⟩
      exact hK _ _ jE (rfl) (fun _ _ _ h => h)
    · refine stepL_of ?_
      rintro F a w1 jE ⟨h5, t32, h3, t30, -⟩ - K hK
      have h5 : (F 5) = .bool true := h5
      rw [h5] at t32
      clear h5
      have h3 : (F 3) = .bool false := h3
      rw [h3] at t30
      clear h3
      refine stepY ((wanted_of 3 false 30 _ rfl rfl t30).trans rfl) ?_
      go_simp
      exact hK _ _ jE rfl (fun _ _ _ h => h)
    · refine stepL_plain rfl ?_
      rintro F a w1 jE ⟨h3, t30, h6, t33, -⟩ - K hK
      have h3 : (F 3) = .bool false := h3
      rw [h3] at t30
      clear h3
      have h6 : (F 6) = .bool false := h6
      rw [h6] at t33
      clear h6
      go_simp
      exact hK _ _ jE rfl (fun _ _ _ h => h)
    · refine stepL_plain rfl ?_
      rintro F a w1 jE ⟨h7, t34, -⟩ - K hK
      have h7 : (F 7) = .bool false := h7
      rw [h7] at t34
      clear h7
      go_simp
      exact hK _ _ jE rfl (fun _ _ _ h => h)
    · refine stepL_of ?_
      rintro F a w1 jE ⟨h8, t35, -⟩ ⟨t2, -⟩ K hK
      have h8 : (F 8) = .bool false := h8
      rw [h8] at t35
      clear h8
      have t2 : a.tmps[2]? = some (.int .i64 x) := t2
      refine stepY ((wanted_of 8 false 35 _ rfl rfl t35).trans rfl) ?_
      go_simp
      exact hK _ _ jE rfl (fun _ _ _ h => h)
    · refine stepL_of ?_
      rintro F a w1 jE ⟨h9, t36, h8, t35, -⟩ - K hK
      have h9 : (F 9) = .int .i64 x := h9
      rw [h9] at t36
      clear h9
      have h8 : (F 8) = .bool false := h8
      rw [h8] at t35
      clear h8
      refine stepY ((wanted_of 8 false 35 _ rfl rfl t35).trans rfl) ?_
      go_simp
      with_reducible refine (unhide (cx _)).mono ?_
      rintro e w2 ⟨rfl, rfl⟩
      exact hK _ _ jE (rfl) (fun _ _ _ h => h)
    · refine stepL_of ?_
      rintro F a w1 jE ⟨h10, t37, h8, t35, -⟩ - K hK
      have h10 : (F 10) = .bool true := h10
      rw [h10] at t37
      clear h10
      have h8 : (F 8) = .bool false := h8
      rw [h8] at t35
      clear h8
      refine stepY ((wanted_of 8 false 35 _ rfl rfl t35).trans rfl) ?_
      go_simp
      exact hK _ _ jE rfl (fun _ _ _ h => h)
    · refine stepL_plain rfl ?_
      rintro F a w1 jE ⟨h8, t35, h11, t38, -⟩ - K hK
      have h8 : (F 8) = .bool false := h8
      rw [h8] at t35
      clear h8
      have h11 : (F 11) = .bool false := h11
      rw [h11] at t38
      clear h11
      go_simp
      exact hK _ _ jE rfl (fun _ _ _ h => h)
    · refine stepL_plain rfl ?_
      rintro F a w1 jE ⟨h12, t39, -⟩ - K hK
      have h12 : (F 12) = .bool false := h12
      rw [h12] at t39
      clear h12
      go_simp
      exact hK _ _ jE rfl (fun _ _ _ h => h)
    · refine stepL_of ?_
      rintro F a w1 jE ⟨h13, t40, -⟩ ⟨t3, -⟩ K hK
      have h13 : (F 13) = .bool false := h13
      rw [h13] at t40
      clear h13
      have t3 : a.tmps[3]? = some (.int .i64 l) := t3
      refine stepY ((wanted_of 13 false 40 _ rfl rfl t40).trans rfl) ?_
      go_simp
      exact hK _ _ jE rfl (fun _ _ _ h => h)
    · refine stepL_of ?_
      rintro F a w1 jE ⟨h14, t41, h13, t40, -⟩ - K hK
      have h14 : (F 14) = .int .i64 l := h14
      rw [h14] at t41
      clear h14
      have h13 : (F 13) = .bool false := h13
      rw [h13] at t40
      clear h13
      refine stepY ((wanted_of 13 false 40 _ rfl rfl t40).trans rfl) ?_
      go_simp
      with_reducible refine (unhide (cl _)).mono ?_
      rintro e w2 ⟨rfl, rfl⟩
      exact hK _ _ jE (rfl) (fun _ _ _ h => h)
    · refine stepL_of ?_
      rintro F a w1 jE ⟨h15, t42, h13, t40, -⟩ - K hK
      have h15 : (F 15) = .bool true := h15
      rw [h15] at t42
      clear h15
      have h13 : (F 13) = .bool false := h13
      rw [h13] at t40
      clear h13
      refine stepY ((wanted_of 13 false 40 _ rfl rfl t40).trans rfl) ?_
      go_simp
      exact hK _ _ jE rfl (fun _ _ _ h => h)
    · refine stepL_plain rfl ?_
      rintro F a w1 jE ⟨h13, t40, h16, t43, -⟩ - K hK
      have h13 : (F 13) = .bool false := h13
      rw [h13] at t40
      clear h13
      have h16 : (F 16) = .bool false := h16
      rw [h16] at t43
      clear h16
      go_simp
      exact hK _ _ jE rfl (fun _ _ _ h => h)
    · refine stepL_plain rfl ?_
      rintro F a w1 jE ⟨h17, t44, -⟩ - K hK
      have h17 : (F 17) = .bool false := h17
      rw [h17] at t44
      clear h17
      go_simp
      exact hK _ _ jE rfl (fun _ _ _ h => h)
    · refine stepL_of ?_
      rintro F a w1 jE ⟨h18, t45, -⟩ ⟨t4, -⟩ K hK
      have h18 : (F 18) = .bool false := h18
      rw [h18] at t45
      clear h18
      have t4 : a.tmps[4]? = some (.int .i64 q) := t4
      refine stepY ((wanted_of 18 false 45 _ rfl rfl t45).trans rfl) ?_
      go_simp
      exact hK _ _ jE rfl (fun _ _ _ h => h)
    · refine stepL_of ?_
      rintro F a w1 jE ⟨h19, t46, h18, t45, -⟩ - K hK
      have h19 : (F 19) = .int .i64 q := h19
      rw [h19] at t46
      clear h19
      have h18 : (F 18) = .bool false := h18
      rw [h18] at t45
      clear h18
      refine stepY ((wanted_of 18 false 45 _ rfl rfl t45).trans rfl) ?_
      go_simp
      with_reducible refine (unhide (cq _)).mono ?_
      rintro e w2 ⟨rfl, rfl⟩
      exact hK _ _ jE (rfl) (fun _ _ _ h => h)
    · refine stepL_of ?_
      rintro F a w1 jE ⟨h20, t47, h18, t45, -⟩ - K hK
      have h20 : (F 20) = .bool false := h20
      rw [h20] at t47
      clear h20
      have h18 : (F 18) = .bool false := h18
      rw [h18] at t45
      clear h18
      refine stepY ((wanted_of 18 false 45 _ rfl rfl t45).trans rfl) ?_
      go_simp
      exact hK _ _ jE rfl (fun _ _ _ h => h)
    · refine stepL_plain rfl ?_
      rintro F a w1 jE ⟨h18, t45, h21, t48, -⟩ - K hK
      have h18 : (F 18) = .bool false := h18
      rw [h18] at t45
      clear h18
      have h21 : (F 21) = .bool true := h21
      rw [h21] at t48
      clear h21
      go_simp
      exact hK _ _ jE rfl (fun _ _ _ h => h)
  · rintro F wb jE ⟨h22, -⟩
    have h22 : (F 22) = .bool true := h22
    have hx := jE.ext (Ext.refl _) (by simp)
    replace E0 := E0.trans hx
    clear jE hx Bs
    simp only [putL, Act.put, Nat.reduceAdd, Nat.zero_add, List.setIfInBounds_toArray, List.set_cons_succ, List.set_cons_zero]
    rw [h22]
    clear h22 cM cc cx cl cq
    go_upto_region 2 with fail
    go_wp2_with fail
    with_reducible refine (works_any _).mono ?_
    rintro e w5 ⟨rfl, hx⟩
    go_wp2_with fail
    go_ret
    exact ⟨rfl, E0.trans hx⟩

set_option maxRecDepth 100000 in
set_option maxHeartbeats 16000000 in
theorem plays_5 (s : Sty) (c x l q : Int) (hM : mayB s = true) (hc : (-1099511627776 ≤ c ∧ c ≤ 1099511627776)) (hx : (-1099511627776 ≤ x ∧ x ≤ 1099511627776)) (hl : (-1099511627776 ≤ l ∧ l ≤ 1099511627776)) (hq : (-1099511627776 ≤ q ∧ q ≤ 1099511627776)) (w : World) :
    Calls Try.prog 6 #[.agg s.cells, .int .i64 c, .int .i64 x, .int .i64 l, .int .i64 q] w fun e w' => e = .returned (.bool true) ∧ Ext w w' := by
  have cM := fun w => hide (may_t s hM w)
  have cc := fun w => hide (within_t c hc.1 hc.2 w)
  have cx := fun w => hide (within_t x hx.1 hx.2 w)
  have cl := fun w => hide (within_t l hl.1 hl.2 w)
  have cq := fun w => hide (within_t q hq.1 hq.2 w)
  obtain ⟨⟨e0, e1, e2, e3, et⟩, ew, emi, ema⟩ := may_facts hM
  have qi := lenMay_part (by decide) emi
  have qa := lenMay_part (by decide) ema
  have qw := lenMay_part (by decide) ew
  obtain ⟨hc1, hc2⟩ := hc
  obtain ⟨hl1, hl2⟩ := hl
  obtain ⟨hq1, hq2⟩ := hq
  have k1 := fun w => flow_any s c hM hc2 w
  have k2 := fun w => ref_flow s c hM hc2 w
  have k3 := fun w => shr_any s c l q hM hc2 hl1 hl2 hq1 hq2 w
  have k4 := fun w => ref_shr s c l q hM hc2 hl1 hl2 hq1 hq2 w
  have k5 := fun w => frame_any s et w
  have k6 := fun w => ref_frame s et w
  have k7 := fun w => resolve_any s.w c qw hc2 w
  have k8 := fun w => ref_resolve s.w c qw hc2 w
  have k9 := fun w => hide (clamp_any s c x qa qi hc2 w)
  have k10 := fun w => hide (ref_clamp s c x qa qi hc2 w)
  clear e0 e1 e2 e3 et ew emi ema qi qa qw hc1 hc2 hl1 hl2 hq1 hq2 hx
  generalize cutV (flowW s (max c 0)) = a1 at *
  generalize cutV (flowL s (max c 0)) = a2 at *
  generalize cutV (flowR s (max c 0)) = a3 at *
  generalize (cutB (flowW s (max c 0)) || cutB (flowL s (max c 0)) || cutB (flowR s (max c 0))) = b1 at *
  generalize (cutB (shrW s (max c 0) l q) || cutB (resV s.m3 (max c 0)) || cutB (resV s.m1 (max c 0))) = b2 at *
  generalize cutV (shrW s (max c 0) l q) = d1 at *
  generalize cutV (resV s.m3 (max c 0)) = d2 at *
  generalize cutV (resV s.m1 (max c 0)) = d3 at *
  generalize s.b3 + s.b1 + s.p3 + s.p1 = f1 at *
  generalize s.b0 + s.b2 + s.p0 + s.p2 = f2 at *
  generalize resV s.w c = n1 at *
  generalize resB s.w = n2 at *
  generalize clampV s c x = m1 at *
  have k1 := fun w => hide (k1 w)
  have k2 := fun w => hide (k2 w)
  have k3 := fun w => hide (k3 w)
  have k4 := fun w => hide (k4 w)
  have k5 := fun w => hide (k5 w)
  have k6 := fun w => hide (k6 w)
  have k7 := fun w => hide (k7 w)
  have k8 := fun w => hide (k8 w)
  go_enter Try.func6, Try.ntmps6
  go_upto_region 1 with fail
  have Bs : Blk (w.alloc (.cells s.cells 28)) w.heap.size 28 s.cells := Blk.new _ _ _
  have E0 : Ext w (w.alloc (.cells s.cells 28)) := (Ext.refl _).alloc _
  generalize (w.alloc (.cells s.cells 28)) = wa at *
  generalize hgs : w.heap.size = g at *
  have HGS := hide hgs
  clear hgs
  refine wp_region_lin0 (fun w' => (ExtX wa w' [])) (fun ii vv ww => match ii with | 0 => vv = (.agg s.cells) | 1 => vv = .bool true | 2 => vv = .bool false | 3 => vv = .bool false | 4 => vv = .int .i64 c | 5 => vv = .bool true | 6 => vv = .bool false | 7 => vv = .bool false | 8 => vv = .bool false | 9 => vv = .int .i64 x | 10 => vv = .bool true | 11 => vv = .bool false | 12 => vv = .bool false | 13 => vv = .bool false | 14 => vv = .int .i64 l | 15 => vv = .bool true | 16 => vv = .bool false | 17 => vv = .bool false | 18 => vv = .bool false | 19 => vv = .int .i64 q | 20 => vv = .bool true | 21 => vv = .bool false | 22 => vv = .bool false | _ => True) (fun ii => match ii with | 1 => [(0, 27)] | 2 => [(1, 28)] | 3 => [(2, 29)] | 4 => [(3, 30)] | 5 => [(4, 31), (3, 30)] | 6 => [(5, 32), (3, 30)] | 7 => [(3, 30), (6, 33)] | 8 => [(7, 34)] | 9 => [(8, 35)] | 10 => [(9, 36), (8, 35)] | 11 => [(10, 37), (8, 35)] | 12 => [(8, 35), (11, 38)] | 13 => [(12, 39)] | 14 => [(13, 40)] | 15 => [(14, 41), (13, 40)] | 16 => [(15, 42), (13, 40)] | 17 => [(13, 40), (16, 43)] | 18 => [(17, 44)] | 19 => [(18, 45)] | 20 => [(19, 46), (18, 45)] | 21 => [(20, 47), (18, 45)] | 22 => [(18, 45), (21, 48)] | _ => []) (fun ii => match ii with | 0 => [5] | 4 => [1] | 9 => [2] | 14 => [3] | 19 => [4] | _ => []) (fun ii => match ii with | 4 => [3] | 5 => [3] | 6 => [3] | 9 => [8] | 10 => [8] | 11 => [8] | 14 => [13] | 15 => [13] | 16 => [13] | 19 => [18] | 20 => [18] | 21 => [18] | _ => []) [22] [0, 1, 3, 7, 15, 31, 63, 127, 255, 511, 1023, 2047, 4095, 8191, 16383, 32767, 65535, 131071, 262143, 524287, 1048575, 2097151, 4194303] 155 rfl (by kernel_rfl) (ExtX.refl _ _) ?_ ?_
  · rename_i hcont; clear hcont
    refine ⟨?_, ?_, ?_, ?_, ?_, ?_, ?_, ?_, ?_, ?_, ?_, ?_, ?_, ?_, ?_, ?_, ?_, ?_, ?_, ?_, ?_, ?_, ?_, trivial⟩
    · refine stepL_plain rfl ?_
      rintro F a w1 jE - ⟨t5, -⟩ K hK
      have t5 : a.tmps[5]? = some (.pointer (some ⟨g, 0, none⟩)) := t5
      have c := (jE.blk Bs (by simp)).cell
      refine wp_load_blk 28 _ rfl g (eval_tmp t5) 28 s.cells _ (jE.blk Bs (by simp)) Try.underlying28 rfl (info_style s) ?_
      exact hK _ _ jE rfl (fun _ _ _ h => h)
    · refine stepL_plain rfl ?_
      rintro F a w1 jE ⟨h0, t27, -⟩ - K hK
      have h0 : (F 0) = (.agg s.cells) := h0
      rw [h0] at t27
      clear h0
      go_simp
      with_reducible refine (unhide (cM _)).mono ?_
      rintro e w2 ⟨rfl, hx⟩
      exact hK _ _ (jE.trans hx) (rfl) (fun _ hj _ _ => (List.not_mem_nil hj).elim)
    · refine stepL_plain rfl ?_
      rintro F a w1 jE ⟨h1, t28, -⟩ - K hK
      have h1 : (F 1) = .bool true := h1
      rw [h1] at t28
      clear h1
      go_simp
      exact hK _ _ jE rfl (fun _ _ _ h => h)
    · refine stepL_plain rfl ?_
      rintro F a w1 jE ⟨h2, t29, -⟩ - K hK
      have h2 : (F 2) = .bool false := h2
      rw [h2] at t29
      clear h2
      go_simp
      exact hK _ _ jE rfl (fun _ _ _ h => h)
    · refine stepL_of ?_
      rintro F a w1 jE ⟨h3, t30, -⟩ ⟨t1, -⟩ K hK
      have h3 : (F 3) = .bool false := h3
      rw [h3] at t30
      clear h3
      have t1 : a.tmps[1]? = some (.int .i64 c) := t1
      refine stepY ((wanted_of 3 false 30 _ rfl rfl t30).trans rfl) ?_
      go_simp
      exact hK _ _ jE rfl (fun _ _ _ h => h)
    · refine stepL_of ?_
      rintro F a w1 jE ⟨h4, t31, h3, t30, -⟩ - K hK
      have h4 : (F 4) = .int .i64 c := h4
      rw [h4] at t31
      clear h4
      have h3 : (F 3) = .bool false := h3
      rw [h3] at t30
      clear h3
      refine stepY ((wanted_of 3 false 30 _ rfl rfl t30).trans rfl) ?_
      go_simp
      with_reducible refine (unhide (cc _)).mono ?_
      rintro e w2 ⟨rfl, rfl⟩
      exact hK _ _ jE (rfl) (fun _ _ _ h => h)
    · refine stepL_of ?_
      rintro F a w1 jE ⟨h5, t32, h3, t30, -⟩ - K hK
      have h5 : (F 5) = .bool true := h5
      rw [h5] at t32
      clear h5
      have h3 : (F 3) = .bool false := h3
      rw [h3] at t30
      clear h3
      refine stepY ((wanted_of 3 false 30 _ rfl rfl t30).trans rfl) ?_
      go_simp
      exact hK _ _ jE rfl (fun _ _ _ h => h)
    · refine stepL_plain rfl ?_
      rintro F a w1 jE ⟨h3, t30, h6, t33, -⟩ - K hK
      have h3 : (F 3) = .bool false := h3
      rw [h3] at t30
      clear h3
      have h6 : (F 6) = .bool false := h6
      rw [h6] at t33
      clear h6
      go_simp
      exact hK _ _ jE rfl (fun _ _ _ h => h)
    · refine stepL_plain rfl ?_
      rintro F a w1 jE ⟨h7, t34, -⟩ - K hK
      have h7 : (F 7) = .bool false := h7
      rw [h7] at t34
      clear h7
      go_simp
      exact hK _ _ jE rfl (fun _ _ _ h => h)
    · refine stepL_of ?_
      rintro F a w1 jE ⟨h8, t35, -⟩ ⟨t2, -⟩ K hK
      have h8 : (F 8) = .bool false := h8
      rw [h8] at t35
      clear h8
      have t2 : a.tmps[2]? = some (.int .i64 x) := t2
      refine stepY ((wanted_of 8 false 35 _ rfl rfl t35).trans rfl) ?_
      go_simp
      exact hK _ _ jE rfl (fun _ _ _ h => h)
    · refine stepL_of ?_
      rintro F a w1 jE ⟨h9, t36, h8, t35, -⟩ - K hK
      have h9 : (F 9) = .int .i64 x := h9
      rw [h9] at t36
      clear h9
      have h8 : (F 8) = .bool false := h8
      rw [h8] at t35
      clear h8
      refine stepY ((wanted_of 8 false 35 _ rfl rfl t35).trans rfl) ?_
      go_simp
      with_reducible refine (unhide (cx _)).mono ?_
      rintro e w2 ⟨rfl, rfl⟩
      exact hK _ _ jE (rfl) (fun _ _ _ h => h)
    · refine stepL_of ?_
      rintro F a w1 jE ⟨h10, t37, h8, t35, -⟩ - K hK
      have h10 : (F 10) = .bool true := h10
      rw [h10] at t37
      clear h10
      have h8 : (F 8) = .bool false := h8
      rw [h8] at t35
      clear h8
      refine stepY ((wanted_of 8 false 35 _ rfl rfl t35).trans rfl) ?_
      go_simp
      exact hK _ _ jE rfl (fun _ _ _ h => h)
    · refine stepL_plain rfl ?_
      rintro F a w1 jE ⟨h8, t35, h11, t38, -⟩ - K hK
      have h8 : (F 8) = .bool false := h8
      rw [h8] at t35
      clear h8
      have h11 : (F 11) = .bool false := h11
      rw [h11] at t38
      clear h11
      go_simp
      exact hK _ _ jE rfl (fun _ _ _ h => h)
    · refine stepL_plain rfl ?_
      rintro F a w1 jE ⟨h12, t39, -⟩ - K hK
      have h12 : (F 12) = .bool false := h12
      rw [h12] at t39
      clear h12
      go_simp
      exact hK _ _ jE rfl (fun _ _ _ h => h)
    · refine stepL_of ?_
      rintro F a w1 jE ⟨h13, t40, -⟩ ⟨t3, -⟩ K hK
      have h13 : (F 13) = .bool false := h13
      rw [h13] at t40
      clear h13
      have t3 : a.tmps[3]? = some (.int .i64 l) := t3
      refine stepY ((wanted_of 13 false 40 _ rfl rfl t40).trans rfl) ?_
      go_simp
      exact hK _ _ jE rfl (fun _ _ _ h => h)
    · refine stepL_of ?_
      rintro F a w1 jE ⟨h14, t41, h13, t40, -⟩ - K hK
      have h14 : (F 14) = .int .i64 l := h14
      rw [h14] at t41
      clear h14
      have h13 : (F 13) = .bool false := h13
      rw [h13] at t40
      clear h13
      refine stepY ((wanted_of 13 false 40 _ rfl rfl t40).trans rfl) ?_
      go_simp
      with_reducible refine (unhide (cl _)).mono ?_
      rintro e w2 ⟨rfl, rfl⟩
      exact hK _ _ jE (rfl) (fun _ _ _ h => h)
    · refine stepL_of ?_
      rintro F a w1 jE ⟨h15, t42, h13, t40, -⟩ - K hK
      have h15 : (F 15) = .bool true := h15
      rw [h15] at t42
      clear h15
      have h13 : (F 13) = .bool false := h13
      rw [h13] at t40
      clear h13
      refine stepY ((wanted_of 13 false 40 _ rfl rfl t40).trans rfl) ?_
      go_simp
      exact hK _ _ jE rfl (fun _ _ _ h => h)
    · refine stepL_plain rfl ?_
      rintro F a w1 jE ⟨h13, t40, h16, t43, -⟩ - K hK
      have h13 : (F 13) = .bool false := h13
      rw [h13] at t40
      clear h13
      have h16 : (F 16) = .bool false := h16
      rw [h16] at t43
      clear h16
      go_simp
      exact hK _ _ jE rfl (fun _ _ _ h => h)
    · refine stepL_plain rfl ?_
      rintro F a w1 jE ⟨h17, t44, -⟩ - K hK
      have h17 : (F 17) = .bool false := h17
      rw [h17] at t44
      clear h17
      go_simp
      exact hK _ _ jE rfl (fun _ _ _ h => h)
    · refine stepL_of ?_
      rintro F a w1 jE ⟨h18, t45, -⟩ ⟨t4, -⟩ K hK
      have h18 : (F 18) = .bool false := h18
      rw [h18] at t45
      clear h18
      have t4 : a.tmps[4]? = some (.int .i64 q) := t4
      refine stepY ((wanted_of 18 false 45 _ rfl rfl t45).trans rfl) ?_
      go_simp
      exact hK _ _ jE rfl (fun _ _ _ h => h)
    · refine stepL_of ?_
      rintro F a w1 jE ⟨h19, t46, h18, t45, -⟩ - K hK
      have h19 : (F 19) = .int .i64 q := h19
      rw [h19] at t46
      clear h19
      have h18 : (F 18) = .bool false := h18
      rw [h18] at t45
      clear h18
      refine stepY ((wanted_of 18 false 45 _ rfl rfl t45).trans rfl) ?_
      go_simp
      with_reducible refine (unhide (cq _)).mono ?_
      rintro e w2 ⟨rfl, rfl⟩
      exact hK _ _ jE (rfl) (fun _ _ _ h => h)
    · refine stepL_of ?_
      rintro F a w1 jE ⟨h20, t47, h18, t45, -⟩ - K hK
      have h20 : (F 20) = .bool true := h20
      rw [h20] at t47
      clear h20
      have h18 : (F 18) = .bool false := h18
      rw [h18] at t45
      clear h18
      refine stepY ((wanted_of 18 false 45 _ rfl rfl t45).trans rfl) ?_
      go_simp
      exact hK _ _ jE rfl (fun _ _ _ h => h)
    · refine stepL_plain rfl ?_
      rintro F a w1 jE ⟨h18, t45, h21, t48, -⟩ - K hK
      have h18 : (F 18) = .bool false := h18
      rw [h18] at t45
      clear h18
      have h21 : (F 21) = .bool false := h21
      rw [h21] at t48
      clear h21
      go_simp
      exact hK _ _ jE rfl (fun _ _ _ h => h)
  · rintro F wb jE ⟨h22, -⟩
    have h22 : (F 22) = .bool false := h22
    have hx := jE.ext (Ext.refl _) (by simp)
    replace E0 := E0.trans hx
    replace Bs := Bs.ext hx
    clear jE hx
    simp only [putL, Act.put, Nat.reduceAdd, Nat.zero_add, List.setIfInBounds_toArray, List.set_cons_succ, List.set_cons_zero]
    rw [h22]
    clear h22 cM cc cx cl cq
    go_upto_region 3 with fail
    go_step
    refine wpList_load_blk rfl 28 _ rfl g rfl 28 s.cells _ Bs Try.underlying28 rfl (info_style s) ?_
    simp only [Act.put, List.setIfInBounds_toArray, List.set_cons_succ, List.set_cons_zero]
    go_wp2_with fail
    with_reducible refine (unhide (k1 _)).mono ?_
    rintro e wc0 ⟨rfl, hx⟩
    replace E0 := E0.trans hx
    replace Bs := Bs.ext hx
    clear hx k1
    go_upto_region 4 with fail
    have B1 : Blk (wc0.alloc (.cells #[.int .i64 a1, .int .i64 a2, .int .i64 a3] 32)) wc0.heap.size 32 #[.int .i64 a1, .int .i64 a2, .int .i64 a3] := Blk.new _ _ _
    replace E0 := E0.alloc (.cells #[.int .i64 a1, .int .i64 a2, .int .i64 a3] 32)
    replace Bs := Bs.alloc (.cells #[.int .i64 a1, .int .i64 a2, .int .i64 a3] 32)
    generalize hgu : wc0.heap.size = g1 at *
    generalize wc0.alloc (.cells #[.int .i64 a1, .int .i64 a2, .int .i64 a3] 32) = wd0 at *
    clear hgu
    go_step
    refine wpList_load_blk rfl 28 _ rfl g rfl 28 s.cells _ Bs Try.underlying28 rfl (info_style s) ?_
    simp only [Act.put, List.setIfInBounds_toArray, List.set_cons_succ, List.set_cons_zero]
    go_wp2_with fail
    with_reducible refine (unhide (k2 _)).mono ?_
    rintro e wc1 ⟨rfl, hx⟩
    replace E0 := E0.trans hx
    replace Bs := Bs.ext hx
    replace B1 := B1.ext hx
    clear hx k2
    go_upto_region 5 with fail
    have B2 : Blk (wc1.alloc (.cells #[.int .i64 a1, .int .i64 a2, .int .i64 a3] 32)) wc1.heap.size 32 #[.int .i64 a1, .int .i64 a2, .int .i64 a3] := Blk.new _ _ _
    replace E0 := E0.alloc (.cells #[.int .i64 a1, .int .i64 a2, .int .i64 a3] 32)
    replace Bs := Bs.alloc (.cells #[.int .i64 a1, .int .i64 a2, .int .i64 a3] 32)
    replace B1 := B1.alloc (.cells #[.int .i64 a1, .int .i64 a2, .int .i64 a3] 32)
    generalize hgu : wc1.heap.size = g2 at *
    generalize wc1.alloc (.cells #[.int .i64 a1, .int .i64 a2, .int .i64 a3] 32) = wd1 at *
    clear hgu
    go_step
    refine wpList_load_blk rfl 28 _ rfl g rfl 28 s.cells _ Bs Try.underlying28 rfl (info_style s) ?_
    simp only [Act.put, List.setIfInBounds_toArray, List.set_cons_succ, List.set_cons_zero]
    go_wp2_with fail
    with_reducible refine (unhide (k3 _)).mono ?_
    rintro e wc2 ⟨rfl, hx⟩
    replace E0 := E0.trans hx
    replace Bs := Bs.ext hx
    replace B1 := B1.ext hx
    replace B2 := B2.ext hx
    clear hx k3
    go_upto_region 6 with fail
    have B3 : Blk (wc2.alloc (.cells #[.int .i64 d1, .int .i64 d2, .int .i64 d3] 32)) wc2.heap.size 32 #[.int .i64 d1, .int .i64 d2, .int .i64 d3] := Blk.new _ _ _
    replace E0 := E0.alloc (.cells #[.int .i64 d1, .int .i64 d2, .int .i64 d3] 32)
    replace Bs := Bs.alloc (.cells #[.int .i64 d1, .int .i64 d2, .int .i64 d3] 32)
    replace B1 := B1.alloc (.cells #[.int .i64 d1, .int .i64 d2, .int .i64 d3] 32)
    replace B2 := B2.alloc (.cells #[.int .i64 d1, .int .i64 d2, .int .i64 d3] 32)
    generalize hgu : wc2.heap.size = g3 at *
    generalize wc2.alloc (.cells #[.int .i64 d1, .int .i64 d2, .int .i64 d3] 32) = wd2 at *
    clear hgu
    go_step
    refine wpList_load_blk rfl 28 _ rfl g rfl 28 s.cells _ Bs Try.underlying28 rfl (info_style s) ?_
    simp only [Act.put, List.setIfInBounds_toArray, List.set_cons_succ, List.set_cons_zero]
    go_wp2_with fail
    with_reducible refine (unhide (k4 _)).mono ?_
    rintro e wc3 ⟨rfl, hx⟩
    replace E0 := E0.trans hx
    replace Bs := Bs.ext hx
    replace B1 := B1.ext hx
    replace B2 := B2.ext hx
    replace B3 := B3.ext hx
    clear hx k4
    go_upto_region 7 with fail
    have B4 : Blk (wc3.alloc (.cells #[.int .i64 d1, .int .i64 d2, .int .i64 d3] 32)) wc3.heap.size 32 #[.int .i64 d1, .int .i64 d2, .int .i64 d3] := Blk.new _ _ _
    replace E0 := E0.alloc (.cells #[.int .i64 d1, .int .i64 d2, .int .i64 d3] 32)
    replace Bs := Bs.alloc (.cells #[.int .i64 d1, .int .i64 d2, .int .i64 d3] 32)
    replace B1 := B1.alloc (.cells #[.int .i64 d1, .int .i64 d2, .int .i64 d3] 32)
    replace B2 := B2.alloc (.cells #[.int .i64 d1, .int .i64 d2, .int .i64 d3] 32)
    replace B3 := B3.alloc (.cells #[.int .i64 d1, .int .i64 d2, .int .i64 d3] 32)
    generalize hgu : wc3.heap.size = g4 at *
    generalize wc3.alloc (.cells #[.int .i64 d1, .int .i64 d2, .int .i64 d3] 32) = wd3 at *
    clear hgu
    go_step
    refine wpList_load_blk rfl 28 _ rfl g rfl 28 s.cells _ Bs Try.underlying28 rfl (info_style s) ?_
    simp only [Act.put, List.setIfInBounds_toArray, List.set_cons_succ, List.set_cons_zero]
    go_wp2_with fail
    with_reducible refine (unhide (k5 _)).mono ?_
    rintro e we0 ⟨rfl, hx⟩
    replace E0 := E0.trans hx
    replace Bs := Bs.ext hx
    replace B1 := B1.ext hx
    replace B2 := B2.ext hx
    replace B3 := B3.ext hx
    replace B4 := B4.ext hx
    clear hx k5
    go_upto_region 8 with fail
    go_step
    refine wpList_load_blk rfl 28 _ rfl g rfl 28 s.cells _ Bs Try.underlying28 rfl (info_style s) ?_
    simp only [Act.put, List.setIfInBounds_toArray, List.set_cons_succ, List.set_cons_zero]
    go_wp2_with fail
    with_reducible refine (unhide (k6 _)).mono ?_
    rintro e we1 ⟨rfl, hx⟩
    replace E0 := E0.trans hx
    replace Bs := Bs.ext hx
    replace B1 := B1.ext hx
    replace B2 := B2.ext hx
    replace B3 := B3.ext hx
    replace B4 := B4.ext hx
    clear hx k6
    go_upto_region 9 with fail
    have dS := Bs.cell
    have lS := Bs.lt
    go_wp2_with fail
    with_reducible refine (unhide (k7 _)).mono ?_
    rintro e wf0 ⟨rfl, hx⟩
    replace E0 := E0.trans hx
    replace Bs := Bs.ext hx
    replace B1 := B1.ext hx
    replace B2 := B2.ext hx
    replace B3 := B3.ext hx
    replace B4 := B4.ext hx
    clear hx k7 dS lS
    go_upto_region 10 with fail
    have dS := Bs.cell
    have lS := Bs.lt
    go_wp2_with fail
    with_reducible refine (unhide (k8 _)).mono ?_
    rintro e wf1 ⟨rfl, hx⟩
    replace E0 := E0.trans hx
    replace Bs := Bs.ext hx
    replace B1 := B1.ext hx
    replace B2 := B2.ext hx
    replace B3 := B3.ext hx
    replace B4 := B4.ext hx
    clear hx k8 dS lS
    go_upto_region 11 with fail
    refine wp_region_lin (by kernel_rfl) (fun w' => (ExtX wf1 w' [])) (fun ii vv ww => match ii with | 0 => vv = (.agg #[.int .i64 a1, .int .i64 a2, .int .i64 a3]) | 1 => vv = (.agg #[.int .i64 a1, .int .i64 a2, .int .i64 a3]) | 2 => vv = .bool true | 3 => vv = .bool true | 4 => vv = .bool b1 | 5 => vv = .bool b1 | 6 => vv = .bool true | 7 => vv = .bool true | 8 => vv = .bool true | 9 => vv = (.agg #[.int .i64 d1, .int .i64 d2, .int .i64 d3]) | 10 => vv = (.agg #[.int .i64 d1, .int .i64 d2, .int .i64 d3]) | 11 => vv = .bool true | 12 => vv = .bool true | 13 => vv = .bool true | 14 => vv = .bool b2 | 15 => vv = .bool b2 | 16 => vv = .bool true | 17 => vv = .bool true | 18 => vv = .bool true | 19 => vv = .int .i64 f1 | 20 => vv = .int .i64 f1 | 21 => vv = .bool true | 22 => vv = .bool true | 23 => vv = .bool true | 24 => vv = .int .i64 f2 | 25 => vv = .int .i64 f2 | 26 => vv = .bool true | 27 => vv = .bool true | 28 => vv = .bool true | 29 => vv = .int .i64 n1 | 30 => vv = .int .i64 n1 | 31 => vv = .bool true | 32 => vv = .bool true | 33 => vv = .bool true | 34 => vv = .bool n2 | 35 => vv = .bool n2 | 36 => vv = .bool true | 37 => vv = .bool true | 38 => vv = .bool true | 39 => vv = (.agg s.cells) | 40 => vv = .int .i64 c | 41 => vv = .int .i64 x | 42 => vv = .int .i64 m1 | 43 => vv = (.agg s.cells) | 44 => vv = .int .i64 c | 45 => vv = .int .i64 x | 46 => vv = .int .i64 m1 | 47 => vv = .bool true | 48 => vv = .bool true | 49 => vv = .bool true | 50 => vv = .bool true | 51 => vv = .bool true | 52 => vv = .bool true | _ => True) (fun ii => match ii with | 2 => [(0, 103), (1, 104)] | 3 => [(2, 105)] | 4 => [(3, 106)] | 5 => [(3, 106)] | 6 => [(4, 107), (5, 108), (3, 106)] | 7 => [(3, 106), (6, 109)] | 8 => [(7, 110)] | 9 => [(8, 111)] | 10 => [(8, 111)] | 11 => [(9, 112), (10, 113), (8, 111)] | 12 => [(8, 111), (11, 114)] | 13 => [(12, 115)] | 14 => [(13, 116)] | 15 => [(13, 116)] | 16 => [(14, 117), (15, 118), (13, 116)] | 17 => [(13, 116), (16, 119)] | 18 => [(17, 120)] | 19 => [(18, 121)] | 20 => [(18, 121)] | 21 => [(19, 122), (20, 123), (18, 121)] | 22 => [(18, 121), (21, 124)] | 23 => [(22, 125)] | 24 => [(23, 126)] | 25 => [(23, 126)] | 26 => [(24, 127), (25, 128), (23, 126)] | 27 => [(23, 126), (26, 129)] | 28 => [(27, 130)] | 29 => [(28, 131)] | 30 => [(28, 131)] | 31 => [(29, 132), (30, 133), (28, 131)] | 32 => [(28, 131), (31, 134)] | 33 => [(32, 135)] | 34 => [(33, 136)] | 35 => [(33, 136)] | 36 => [(34, 137), (35, 138), (33, 136)] | 37 => [(33, 136), (36, 139)] | 38 => [(37, 140)] | 39 => [(38, 141)] | 40 => [(38, 141)] | 41 => [(38, 141)] | 42 => [(39, 142), (40, 143), (41, 144), (38, 141)] | 43 => [(38, 141)] | 44 => [(38, 141)] | 45 => [(38, 141)] | 46 => [(43, 146), (44, 147), (45, 148), (38, 141)] | 47 => [(42, 145), (46, 149), (38, 141)] | 48 => [(38, 141), (47, 150)] | 49 => [(48, 151)] | 50 => [(49, 152)] | 51 => [(49, 152), (50, 153)] | 52 => [(51, 154)] | _ => []) (fun ii => match ii with | 0 => [11] | 1 => [13] | 4 => [12] | 5 => [14] | 9 => [15] | 10 => [17] | 14 => [16] | 15 => [18] | 19 => [19] | 20 => [21] | 24 => [20] | 25 => [22] | 29 => [23] | 30 => [25] | 34 => [24] | 35 => [26] | 39 => [5] | 40 => [1] | 41 => [2] | 43 => [5] | 44 => [1] | 45 => [2] | _ => []) (fun ii => match ii with | 0 => [1] | 1 => [0] | 4 => [3, 5] | 5 => [3, 4] | 6 => [3] | 9 => [8, 10] | 10 => [8, 9] | 11 => [8] | 14 => [13, 15] | 15 => [13, 14] | 16 => [13] | 19 => [18, 20] | 20 => [18, 19] | 21 => [18] | 24 => [23, 25] | 25 => [23, 24] | 26 => [23] | 29 => [28, 30] | 30 => [28, 29] | 31 => [28] | 34 => [33, 35] | 35 => [33, 34] | 36 => [33] | 39 => [38, 40, 41, 43, 44, 45] | 40 => [38, 39, 41, 43, 44, 45] | 41 => [38, 39, 40, 43, 44, 45] | 42 => [38, 43, 44, 45] | 43 => [38, 39, 40, 41, 44, 45, 42] | 44 => [38, 39, 40, 41, 43, 45, 42] | 45 => [38, 39, 40, 41, 43, 44, 42] | 46 => [42, 38] | 47 => [38] | 50 => [49] | _ => []) [52] [0, 0, 3, 7, 15, 15, 63, 127, 255, 511, 511, 2047, 4095, 8191, 16383, 16383, 65535, 131071, 262143, 524287, 524287, 2097151, 4194303, 8388607, 16777215, 16777215, 67108863, 134217727, 268435455, 536870911, 536870911, 2147483647, 4294967295, 8589934591, 17179869183, 17179869183, 68719476735, 137438953471, 274877906943, 549755813887, 549755813887, 549755813887, 4398046511103, 549755813887, 549755813887, 549755813887, 70368744177663, 140737488355327, 281474976710655, 562949953421311, 1125899906842623, 2251799813685247, 4503599627370495] 155 rfl (by kernel_rfl) (ExtX.start _ _) ?_ ?_
    · rename_i hcont; clear hcont
      refine ⟨?_, ?_, ?_, ?_, ?_, ?_, ?_, ?_, ?_, ?_, ?_, ?_, ?_, ?_, ?_, ?_, ?_, ?_, ?_, ?_, ?_, ?_, ?_, ?_, ?_, ?_, ?_, ?_, ?_, ?_, ?_, ?_, ?_, ?_, ?_, ?_, ?_, ?_, ?_, ?_, ?_, ?_, ?_, ?_, ?_, ?_, ?_, ?_, ?_, ?_, ?_, ?_, ?_, trivial⟩
      · refine stepL_plain rfl ?_
        rintro F a w1 jE - ⟨t11, -⟩ K hK
        have t11 : a.tmps[11]? = some (.pointer (some ⟨g1, 0, none⟩)) := t11
        have c := (jE.blk B1 (by simp)).cell
        go_simp
        exact hK _ _ jE rfl (fun _ _ _ h => h)
      · refine stepL_plain rfl ?_
        rintro F a w1 jE - ⟨t13, -⟩ K hK
        have t13 : a.tmps[13]? = some (.pointer (some ⟨g2, 0, none⟩)) := t13
        have c := (jE.blk B2 (by simp)).cell
        go_simp
        exact hK _ _ jE rfl (fun _ _ _ h => h)
      · refine stepL_plain rfl ?_
        rintro F a w1 jE ⟨h0, t103, h1, t104, -⟩ - K hK
        have h0 : (F 0) = (.agg #[.int .i64 a1, .int .i64 a2, .int .i64 a3]) := h0
        rw [h0] at t103
        clear h0
        have h1 : (F 1) = (.agg #[.int .i64 a1, .int .i64 a2, .int .i64 a3]) := h1
        rw [h1] at t104
        clear h1
        have e1 := eq_used a1 a2 a3
        go_simp
        exact hK _ _ jE rfl (fun _ _ _ h => h)
      · refine stepL_plain rfl ?_
        rintro F a w1 jE ⟨h2, t105, -⟩ - K hK
        have h2 : (F 2) = .bool true := h2
        rw [h2] at t105
        clear h2
        go_simp
        exact hK _ _ jE rfl (fun _ _ _ h => h)
      · refine stepL_of ?_
        rintro F a w1 jE ⟨h3, t106, -⟩ ⟨t12, -⟩ K hK
        have h3 : (F 3) = .bool true := h3
        rw [h3] at t106
        clear h3
        have t12 : a.tmps[12]? = some (.bool b1) := t12
        refine stepY ((wanted_of 3 true 106 _ rfl rfl t106).trans rfl) ?_
        go_simp
        exact hK _ _ jE rfl (fun _ _ _ h => h)
      · refine stepL_of ?_
        rintro F a w1 jE ⟨h3, t106, -⟩ ⟨t14, -⟩ K hK
        have h3 : (F 3) = .bool true := h3
        rw [h3] at t106
        clear h3
        have t14 : a.tmps[14]? = some (.bool b1) := t14
        refine stepY ((wanted_of 3 true 106 _ rfl rfl t106).trans rfl) ?_
        go_simp
        exact hK _ _ jE rfl (fun _ _ _ h => h)
      · refine stepL_of ?_
        rintro F a w1 jE ⟨h4, t107, h5, t108, h3, t106, -⟩ - K hK
        have h4 : (F 4) = .bool b1 := h4
        rw [h4] at t107
        clear h4
        have h5 : (F 5) = .bool b1 := h5
        rw [h5] at t108
        clear h5
        have h3 : (F 3) = .bool true := h3
        rw [h3] at t106
        clear h3
        refine stepY ((wanted_of 3 true 106 _ rfl rfl t106).trans rfl) ?_
        have e1 : (b1 == b1) = true := by simp
        go_simp
        exact hK _ _ jE rfl (fun _ _ _ h => h)
      · refine stepL_plain rfl ?_
        rintro F a w1 jE ⟨h3, t106, h6, t109, -⟩ - K hK
        have h3 : (F 3) = .bool true := h3
        rw [h3] at t106
        clear h3
        have h6 : (F 6) = .bool true := h6
        rw [h6] at t109
        clear h6
        go_simp
        exact hK _ _ jE rfl (fun _ _ _ h => h)
      · refine stepL_plain rfl ?_
        rintro F a w1 jE ⟨h7, t110, -⟩ - K hK
        have h7 : (F 7) = .bool true := h7
        rw [h7] at t110
        clear h7
        go_simp
        exact hK _ _ jE rfl (fun _ _ _ h => h)
      · refine stepL_of ?_
        rintro F a w1 jE ⟨h8, t111, -⟩ ⟨t15, -⟩ K hK
        have h8 : (F 8) = .bool true := h8
        rw [h8] at t111
        clear h8
        have t15 : a.tmps[15]? = some (.pointer (some ⟨g3, 0, none⟩)) := t15
        refine stepY ((wanted_of 8 true 111 _ rfl rfl t111).trans rfl) ?_
        have c := (jE.blk B3 (by simp)).cell
        go_simp
        exact hK _ _ jE rfl (fun _ _ _ h => h)
      · refine stepL_of ?_
        rintro F a w1 jE ⟨h8, t111, -⟩ ⟨t17, -⟩ K hK
        have h8 : (F 8) = .bool true := h8
        rw [h8] at t111
        clear h8
        have t17 : a.tmps[17]? = some (.pointer (some ⟨g4, 0, none⟩)) := t17
        refine stepY ((wanted_of 8 true 111 _ rfl rfl t111).trans rfl) ?_
        have c := (jE.blk B4 (by simp)).cell
        go_simp
        exact hK _ _ jE rfl (fun _ _ _ h => h)
      · refine stepL_of ?_
        rintro F a w1 jE ⟨h9, t112, h10, t113, h8, t111, -⟩ - K hK
        have h9 : (F 9) = (.agg #[.int .i64 d1, .int .i64 d2, .int .i64 d3]) := h9
        rw [h9] at t112
        clear h9
        have h10 : (F 10) = (.agg #[.int .i64 d1, .int .i64 d2, .int .i64 d3]) := h10
        rw [h10] at t113
        clear h10
        have h8 : (F 8) = .bool true := h8
        rw [h8] at t111
        clear h8
        refine stepY ((wanted_of 8 true 111 _ rfl rfl t111).trans rfl) ?_
        have e1 := eq_used d1 d2 d3
        go_simp
        exact hK _ _ jE rfl (fun _ _ _ h => h)
      · refine stepL_plain rfl ?_
        rintro F a w1 jE ⟨h8, t111, h11, t114, -⟩ - K hK
        have h8 : (F 8) = .bool true := h8
        rw [h8] at t111
        clear h8
        have h11 : (F 11) = .bool true := h11
        rw [h11] at t114
        clear h11
        go_simp
        exact hK _ _ jE rfl (fun _ _ _ h => h)
      · refine stepL_plain rfl ?_
        rintro F a w1 jE ⟨h12, t115, -⟩ - K hK
        have h12 : (F 12) = .bool true := h12
        rw [h12] at t115
        clear h12
        go_simp
        exact hK _ _ jE rfl (fun _ _ _ h => h)
      · refine stepL_of ?_
        rintro F a w1 jE ⟨h13, t116, -⟩ ⟨t16, -⟩ K hK
        have h13 : (F 13) = .bool true := h13
        rw [h13] at t116
        clear h13
        have t16 : a.tmps[16]? = some (.bool b2) := t16
        refine stepY ((wanted_of 13 true 116 _ rfl rfl t116).trans rfl) ?_
        go_simp
        exact hK _ _ jE rfl (fun _ _ _ h => h)
      · refine stepL_of ?_
        rintro F a w1 jE ⟨h13, t116, -⟩ ⟨t18, -⟩ K hK
        have h13 : (F 13) = .bool true := h13
        rw [h13] at t116
        clear h13
        have t18 : a.tmps[18]? = some (.bool b2) := t18
        refine stepY ((wanted_of 13 true 116 _ rfl rfl t116).trans rfl) ?_
        go_simp
        exact hK _ _ jE rfl (fun _ _ _ h => h)
      · refine stepL_of ?_
        rintro F a w1 jE ⟨h14, t117, h15, t118, h13, t116, -⟩ - K hK
        have h14 : (F 14) = .bool b2 := h14
        rw [h14] at t117
        clear h14
        have h15 : (F 15) = .bool b2 := h15
        rw [h15] at t118
        clear h15
        have h13 : (F 13) = .bool true := h13
        rw [h13] at t116
        clear h13
        refine stepY ((wanted_of 13 true 116 _ rfl rfl t116).trans rfl) ?_
        have e1 : (b2 == b2) = true := by simp
        go_simp
        exact hK _ _ jE rfl (fun _ _ _ h => h)
      · refine stepL_plain rfl ?_
        rintro F a w1 jE ⟨h13, t116, h16, t119, -⟩ - K hK
        have h13 : (F 13) = .bool true := h13
        rw [h13] at t116
        clear h13
        have h16 : (F 16) = .bool true := h16
        rw [h16] at t119
        clear h16
        go_simp
        exact hK _ _ jE rfl (fun _ _ _ h => h)
      · refine stepL_plain rfl ?_
        rintro F a w1 jE ⟨h17, t120, -⟩ - K hK
        have h17 : (F 17) = .bool true := h17
        rw [h17] at t120
        clear h17
        go_simp
        exact hK _ _ jE rfl (fun _ _ _ h => h)
      · refine stepL_of ?_
        rintro F a w1 jE ⟨h18, t121, -⟩ ⟨t19, -⟩ K hK
        have h18 : (F 18) = .bool true := h18
        rw [h18] at t121
        clear h18
        have t19 : a.tmps[19]? = some (.int .i64 f1) := t19
        refine stepY ((wanted_of 18 true 121 _ rfl rfl t121).trans rfl) ?_
        go_simp
        exact hK _ _ jE rfl (fun _ _ _ h => h)
      · refine stepL_of ?_
        rintro F a w1 jE ⟨h18, t121, -⟩ ⟨t21, -⟩ K hK
        have h18 : (F 18) = .bool true := h18
        rw [h18] at t121
        clear h18
        have t21 : a.tmps[21]? = some (.int .i64 f1) := t21
        refine stepY ((wanted_of 18 true 121 _ rfl rfl t121).trans rfl) ?_
        go_simp
        exact hK _ _ jE rfl (fun _ _ _ h => h)
      · refine stepL_of ?_
        rintro F a w1 jE ⟨h19, t122, h20, t123, h18, t121, -⟩ - K hK
        have h19 : (F 19) = .int .i64 f1 := h19
        rw [h19] at t122
        clear h19
        have h20 : (F 20) = .int .i64 f1 := h20
        rw [h20] at t123
        clear h20
        have h18 : (F 18) = .bool true := h18
        rw [h18] at t121
        clear h18
        refine stepY ((wanted_of 18 true 121 _ rfl rfl t121).trans rfl) ?_
        go_simp
        exact hK _ _ jE rfl (fun _ _ _ h => h)
      · refine stepL_plain rfl ?_
        rintro F a w1 jE ⟨h18, t121, h21, t124, -⟩ - K hK
        have h18 : (F 18) = .bool true := h18
        rw [h18] at t121
        clear h18
        have h21 : (F 21) = .bool true := h21
        rw [h21] at t124
        clear h21
        go_simp
        exact hK _ _ jE rfl (fun _ _ _ h => h)
      · refine stepL_plain rfl ?_
        rintro F a w1 jE ⟨h22, t125, -⟩ - K hK
        have h22 : (F 22) = .bool true := h22
        rw [h22] at t125
        clear h22
        go_simp
        exact hK _ _ jE rfl (fun _ _ _ h => h)
      · refine stepL_of ?_
        rintro F a w1 jE ⟨h23, t126, -⟩ ⟨t20, -⟩ K hK
        have h23 : (F 23) = .bool true := h23
        rw [h23] at t126
        clear h23
        have t20 : a.tmps[20]? = some (.int .i64 f2) := t20
        refine stepY ((wanted_of 23 true 126 _ rfl rfl t126).trans rfl) ?_
        go_simp
        exact hK _ _ jE rfl (fun _ _ _ h => h)
      · refine stepL_of ?_
        rintro F a w1 jE ⟨h23, t126, -⟩ ⟨t22, -⟩ K hK
        have h23 : (F 23) = .bool true := h23
        rw [h23] at t126
        clear h23
        have t22 : a.tmps[22]? = some (.int .i64 f2) := t22
        refine stepY ((wanted_of 23 true 126 _ rfl rfl t126).trans rfl) ?_
        go_simp
        exact hK _ _ jE rfl (fun _ _ _ h => h)
      · refine stepL_of ?_
        rintro F a w1 jE ⟨h24, t127, h25, t128, h23, t126, -⟩ - K hK
        have h24 : (F 24) = .int .i64 f2 := h24
        rw [h24] at t127
        clear h24
        have h25 : (F 25) = .int .i64 f2 := h25
        rw [h25] at t128
        clear h25
        have h23 : (F 23) = .bool true := h23
        rw [h23] at t126
        clear h23
        refine stepY ((wanted_of 23 true 126 _ rfl rfl t126).trans rfl) ?_
        go_simp
        exact hK _ _ jE rfl (fun _ _ _ h => h)
      · refine stepL_plain rfl ?_
        rintro F a w1 jE ⟨h23, t126, h26, t129, -⟩ - K hK
        have h23 : (F 23) = .bool true := h23
        rw [h23] at t126
        clear h23
        have h26 : (F 26) = .bool true := h26
        rw [h26] at t129
        clear h26
        go_simp
        exact hK _ _ jE rfl (fun _ _ _ h => h)
      · refine stepL_plain rfl ?_
        rintro F a w1 jE ⟨h27, t130, -⟩ - K hK
        have h27 : (F 27) = .bool true := h27
        rw [h27] at t130
        clear h27
        go_simp
        exact hK _ _ jE rfl (fun _ _ _ h => h)
      · refine stepL_of ?_
        rintro F a w1 jE ⟨h28, t131, -⟩ ⟨t23, -⟩ K hK
        have h28 : (F 28) = .bool true := h28
        rw [h28] at t131
        clear h28
        have t23 : a.tmps[23]? = some (.int .i64 n1) := t23
        refine stepY ((wanted_of 28 true 131 _ rfl rfl t131).trans rfl) ?_
        go_simp
        exact hK _ _ jE rfl (fun _ _ _ h => h)
      · refine stepL_of ?_
        rintro F a w1 jE ⟨h28, t131, -⟩ ⟨t25, -⟩ K hK
        have h28 : (F 28) = .bool true := h28
        rw [h28] at t131
        clear h28
        have t25 : a.tmps[25]? = some (.int .i64 n1) := t25
        refine stepY ((wanted_of 28 true 131 _ rfl rfl t131).trans rfl) ?_
        go_simp
        exact hK _ _ jE rfl (fun _ _ _ h => h)
      · refine stepL_of ?_
        rintro F a w1 jE ⟨h29, t132, h30, t133, h28, t131, -⟩ - K hK
        have h29 : (F 29) = .int .i64 n1 := h29
        rw [h29] at t132
        clear h29
        have h30 : (F 30) = .int .i64 n1 := h30
        rw [h30] at t133
        clear h30
        have h28 : (F 28) = .bool true := h28
        rw [h28] at t131
        clear h28
        refine stepY ((wanted_of 28 true 131 _ rfl rfl t131).trans rfl) ?_
        go_simp
        exact hK _ _ jE rfl (fun _ _ _ h => h)
      · refine stepL_plain rfl ?_
        rintro F a w1 jE ⟨h28, t131, h31, t134, -⟩ - K hK
        have h28 : (F 28) = .bool true := h28
        rw [h28] at t131
        clear h28
        have h31 : (F 31) = .bool true := h31
        rw [h31] at t134
        clear h31
        go_simp
        exact hK _ _ jE rfl (fun _ _ _ h => h)
      · refine stepL_plain rfl ?_
        rintro F a w1 jE ⟨h32, t135, -⟩ - K hK
        have h32 : (F 32) = .bool true := h32
        rw [h32] at t135
        clear h32
        go_simp
        exact hK _ _ jE rfl (fun _ _ _ h => h)
      · refine stepL_of ?_
        rintro F a w1 jE ⟨h33, t136, -⟩ ⟨t24, -⟩ K hK
        have h33 : (F 33) = .bool true := h33
        rw [h33] at t136
        clear h33
        have t24 : a.tmps[24]? = some (.bool n2) := t24
        refine stepY ((wanted_of 33 true 136 _ rfl rfl t136).trans rfl) ?_
        go_simp
        exact hK _ _ jE rfl (fun _ _ _ h => h)
      · refine stepL_of ?_
        rintro F a w1 jE ⟨h33, t136, -⟩ ⟨t26, -⟩ K hK
        have h33 : (F 33) = .bool true := h33
        rw [h33] at t136
        clear h33
        have t26 : a.tmps[26]? = some (.bool n2) := t26
        refine stepY ((wanted_of 33 true 136 _ rfl rfl t136).trans rfl) ?_
        go_simp
        exact hK _ _ jE rfl (fun _ _ _ h => h)
      · refine stepL_of ?_
        rintro F a w1 jE ⟨h34, t137, h35, t138, h33, t136, -⟩ - K hK
        have h34 : (F 34) = .bool n2 := h34
        rw [h34] at t137
        clear h34
        have h35 : (F 35) = .bool n2 := h35
        rw [h35] at t138
        clear h35
        have h33 : (F 33) = .bool true := h33
        rw [h33] at t136
        clear h33
        refine stepY ((wanted_of 33 true 136 _ rfl rfl t136).trans rfl) ?_
        have e1 : (n2 == n2) = true := by simp
        go_simp
        exact hK _ _ jE rfl (fun _ _ _ h => h)
      · refine stepL_plain rfl ?_
        rintro F a w1 jE ⟨h33, t136, h36, t139, -⟩ - K hK
        have h33 : (F 33) = .bool true := h33
        rw [h33] at t136
        clear h33
        have h36 : (F 36) = .bool true := h36
        rw [h36] at t139
        clear h36
        go_simp
        exact hK _ _ jE rfl (fun _ _ _ h => h)
      · refine stepL_plain rfl ?_
        rintro F a w1 jE ⟨h37, t140, -⟩ - K hK
        have h37 : (F 37) = .bool true := h37
        rw [h37] at t140
        clear h37
        go_simp
        exact hK _ _ jE rfl (fun _ _ _ h => h)
      · refine stepL_of ?_
        rintro F a w1 jE ⟨h38, t141, -⟩ ⟨t5, -⟩ K hK
        have h38 : (F 38) = .bool true := h38
        rw [h38] at t141
        clear h38
        have t5 : a.tmps[5]? = some (.pointer (some ⟨g, 0, none⟩)) := t5
        refine stepY ((wanted_of 38 true 141 _ rfl rfl t141).trans rfl) ?_
        have c := (jE.blk Bs (by simp)).cell
        refine wp_load_blk 28 _ rfl g (eval_tmp t5) 28 s.cells _ (jE.blk Bs (by simp)) Try.underlying28 rfl (info_style s) ?_
        exact hK _ _ jE rfl (fun _ _ _ h => h)
      · refine stepL_of ?_
        rintro F a w1 jE ⟨h38, t141, -⟩ ⟨t1, -⟩ K hK
        have h38 : (F 38) = .bool true := h38
        rw [h38] at t141
        clear h38
        have t1 : a.tmps[1]? = some (.int .i64 c) := t1
        refine stepY ((wanted_of 38 true 141 _ rfl rfl t141).trans rfl) ?_
        go_simp
        exact hK _ _ jE rfl (fun _ _ _ h => h)
      · refine stepL_of ?_
        rintro F a w1 jE ⟨h38, t141, -⟩ ⟨t2, -⟩ K hK
        have h38 : (F 38) = .bool true := h38
        rw [h38] at t141
        clear h38
        have t2 : a.tmps[2]? = some (.int .i64 x) := t2
        refine stepY ((wanted_of 38 true 141 _ rfl rfl t141).trans rfl) ?_
        go_simp
        exact hK _ _ jE rfl (fun _ _ _ h => h)
      · refine stepL_of ?_
        rintro F a w1 jE ⟨h39, t142, h40, t143, h41, t144, h38, t141, -⟩ - K hK
        have h39 : (F 39) = (.agg s.cells) := h39
        rw [h39] at t142
        clear h39
        have h40 : (F 40) = .int .i64 c := h40
        rw [h40] at t143
        clear h40
        have h41 : (F 41) = .int .i64 x := h41
        rw [h41] at t144
        clear h41
        have h38 : (F 38) = .bool true := h38
        rw [h38] at t141
        clear h38
        refine stepY ((wanted_of 38 true 141 _ rfl rfl t141).trans rfl) ?_
        go_simp
        with_reducible refine (unhide (k9 _)).mono ?_
        rintro e w2 ⟨rfl, hx⟩
        exact hK _ _ (jE.trans hx) (rfl) (by intro jq hj uq h; have hj : jq ∈ [38, 43, 44, 45] := hj; simp only [List.mem_cons, List.not_mem_nil, or_false] at hj; rcases hj with rfl | rfl | rfl | rfl; exact h; exact h; exact h; exact h)
      · refine stepL_of ?_
        rintro F a w1 jE ⟨h38, t141, -⟩ ⟨t5, -⟩ K hK
        have h38 : (F 38) = .bool true := h38
        rw [h38] at t141
        clear h38
        have t5 : a.tmps[5]? = some (.pointer (some ⟨g, 0, none⟩)) := t5
        refine stepY ((wanted_of 38 true 141 _ rfl rfl t141).trans rfl) ?_
        have c := (jE.blk Bs (by simp)).cell
        refine wp_load_blk 28 _ rfl g (eval_tmp t5) 28 s.cells _ (jE.blk Bs (by simp)) Try.underlying28 rfl (info_style s) ?_
        exact hK _ _ jE rfl (fun _ _ _ h => h)
      · refine stepL_of ?_
        rintro F a w1 jE ⟨h38, t141, -⟩ ⟨t1, -⟩ K hK
        have h38 : (F 38) = .bool true := h38
        rw [h38] at t141
        clear h38
        have t1 : a.tmps[1]? = some (.int .i64 c) := t1
        refine stepY ((wanted_of 38 true 141 _ rfl rfl t141).trans rfl) ?_
        go_simp
        exact hK _ _ jE rfl (fun _ _ _ h => h)
      · refine stepL_of ?_
        rintro F a w1 jE ⟨h38, t141, -⟩ ⟨t2, -⟩ K hK
        have h38 : (F 38) = .bool true := h38
        rw [h38] at t141
        clear h38
        have t2 : a.tmps[2]? = some (.int .i64 x) := t2
        refine stepY ((wanted_of 38 true 141 _ rfl rfl t141).trans rfl) ?_
        go_simp
        exact hK _ _ jE rfl (fun _ _ _ h => h)
      · refine stepL_of ?_
        rintro F a w1 jE ⟨h43, t146, h44, t147, h45, t148, h38, t141, -⟩ - K hK
        have h43 : (F 43) = (.agg s.cells) := h43
        rw [h43] at t146
        clear h43
        have h44 : (F 44) = .int .i64 c := h44
        rw [h44] at t147
        clear h44
        have h45 : (F 45) = .int .i64 x := h45
        rw [h45] at t148
        clear h45
        have h38 : (F 38) = .bool true := h38
        rw [h38] at t141
        clear h38
        refine stepY ((wanted_of 38 true 141 _ rfl rfl t141).trans rfl) ?_
        go_simp
        with_reducible refine (unhide (k10 _)).mono ?_
        rintro e w2 ⟨rfl, hx⟩
        exact hK _ _ (jE.trans hx) (rfl) (by intro jq hj uq h; have hj : jq ∈ [42, 38] := hj; simp only [List.mem_cons, List.not_mem_nil, or_false] at hj; rcases hj with rfl | rfl; exact h; exact h)
      · refine stepL_of ?_
        rintro F a w1 jE ⟨h42, t145, h46, t149, h38, t141, -⟩ - K hK
        have h42 : (F 42) = .int .i64 m1 := h42
        rw [h42] at t145
        clear h42
        have h46 : (F 46) = .int .i64 m1 := h46
        rw [h46] at t149
        clear h46
        have h38 : (F 38) = .bool true := h38
        rw [h38] at t141
        clear h38
        refine stepY ((wanted_of 38 true 141 _ rfl rfl t141).trans rfl) ?_
        go_simp
        exact hK _ _ jE rfl (fun _ _ _ h => h)
      · refine stepL_plain rfl ?_
        rintro F a w1 jE ⟨h38, t141, h47, t150, -⟩ - K hK
        have h38 : (F 38) = .bool true := h38
        rw [h38] at t141
        clear h38
        have h47 : (F 47) = .bool true := h47
        rw [h47] at t150
        clear h47
        go_simp
        exact hK _ _ jE rfl (fun _ _ _ h => h)
      · refine stepL_plain rfl ?_
        rintro F a w1 jE ⟨h48, t151, -⟩ - K hK
        have h48 : (F 48) = .bool true := h48
        rw [h48] at t151
        clear h48
        go_simp
        exact hK _ _ jE rfl (fun _ _ _ h => h)
      · refine stepL_of ?_
        rintro F a w1 jE ⟨h49, t152, -⟩ - K hK
        have h49 : (F 49) = .bool true := h49
        rw [h49] at t152
        clear h49
        refine stepY ((wanted_of 49 true 152 _ rfl rfl t152).trans rfl) ?_
        go_simp
        with_reducible refine (works_any _).mono ?_
        rintro e w2 ⟨rfl, hx⟩
        exact hK _ _ (jE.trans hx) (rfl) (by intro jq hj uq h; have hj : jq ∈ [49] := hj; simp only [List.mem_singleton] at hj; subst hj; exact h)
      · refine stepL_plain rfl ?_
        rintro F a w1 jE ⟨h49, t152, h50, t153, -⟩ - K hK
        have h49 : (F 49) = .bool true := h49
        rw [h49] at t152
        clear h49
        have h50 : (F 50) = .bool true := h50
        rw [h50] at t153
        clear h50
        go_simp
        exact hK _ _ jE rfl (fun _ _ _ h => h)
      · refine stepL_plain rfl ?_
        rintro F a w1 jE ⟨h51, t154, -⟩ - K hK
        have h51 : (F 51) = .bool true := h51
        rw [h51] at t154
        clear h51
        go_simp
        exact hK _ _ jE rfl (fun _ _ _ h => h)
    · rintro F wz jE ⟨h52, -⟩
      have h52 : (F 52) = .bool true := h52
      have hx := jE.ext (Ext.refl _) (by simp)
      replace E0 := E0.trans hx
      clear jE hx k9 k10
      simp only [putL, Act.put, Nat.reduceAdd, Nat.zero_add, List.setIfInBounds_toArray, List.set_cons_succ, List.set_cons_zero]
      rw [h52]
      clear h52
      go_wp2_with fail
      go_ret
      exact ⟨rfl, E0⟩

theorem law_plays (s : Sty) (c x l q : Int) (w : World) :
    Calls Try.prog 6 #[.agg s.cells, .int .i64 c, .int .i64 x, .int .i64 l, .int .i64 q] w fun e w' => e = .returned (.bool true) ∧ Ext w w' := by
  cases hM : mayB s
  · exact plays_0 s c x l q hM w
  by_cases hc : -1099511627776 ≤ c ∧ c ≤ 1099511627776
  rotate_left
  · exact plays_1 s c x l q hM hc w
  by_cases hx : -1099511627776 ≤ x ∧ x ≤ 1099511627776
  rotate_left
  · exact plays_2 s c x l q hM hc hx w
  by_cases hl : -1099511627776 ≤ l ∧ l ≤ 1099511627776
  rotate_left
  · exact plays_3 s c x l q hM hc hx hl w
  by_cases hq : -1099511627776 ≤ q ∧ q ≤ 1099511627776
  rotate_left
  · exact plays_4 s c x l q hM hc hx hl hq w
  exact plays_5 s c x l q hM hc hx hl hq w
end Go.Proofs.Ytkajcipfmdpneaa
