/- The law on the sum of a box: its walk. -/
import Derived.Test.YtkajcipfmdpneaaWidLS
import Derived.Test.YtkajcipfmdpneaaLinB
import Derived.Deep.Cut
import Derived.IntWalk
namespace Go.Proofs.Ytkajcipfmdpneaa
open Go.RowKit

/-- what the law asks of a box that flows -/
structure SumFacts (s : Sty) (c W LL mi ma : Int) (bi bo : Bool) : Prop where
  (w0 : 0 ≤ W) (least : bi = true → mi ≤ W) (most : bo = true → W ≤ ma ∨ bi = true ∧ W = mi) (left : s.m3.k = 0 → 0 ≤ LL) (wide : s.w.k = 1 → bi = false → bo = false → W = s.w.n) (marg : s.m3.k = 1 → LL = s.m3.n)
theorem resB_1 {l : Ln} (h : l.k = 1) : resB l = true := by simp [resB, h]
theorem resB_0 {l : Ln} (h : l.k = 0) : resB l = false := by simp [resB, h]
theorem resV_1 {l : Ln} {c : Int} (h : l.k = 1) : resV l c = l.n := by simp [resV, h]
theorem resV_0 {l : Ln} {c : Int} (h : l.k = 0) : resV l c = 0 := by simp [resV, h]
theorem sum_facts {s : Sty} {c : Int} (hs : mayB s = true) : SumFacts s c (flowW s c) (flowL s c) (resV s.minw c) (resV s.maxw c) (resB s.minw) (resB s.maxw) := by
  obtain ⟨⟨e0, e1, e2, e3, et⟩, ew, emi, ema⟩ := may_facts hs
  have nmi := res_nn (c := c) emi
  have nma := res_nn (c := c) ema
  have hW : flowW s c = clampV s c (flow0 s c) := rfl
  refine ⟨?_, ?_, ?_, ?_, ?_, ?_⟩
  · rw [hW]; simp only [clampV]; omega
  · intro h; rw [hW]; simp only [clampV, h, if_true]; omega
  · intro h; rw [hW]; simp only [clampV, h, if_true]
    cases resB s.minw <;> simp <;> omega
  · intro h
    unfold flowL
    rw [resB_0 h, resV_0 h]
    simp only [true_and]
    split
    · split
      · omega
      · simp only [if_true]; omega
    · omega
  · intro h h1 h2
    have nw := res_nn (c := c) ew
    rw [hW]
    simp only [clampV, h1, h2, flow0, resB_1 h, resV_1 h] at nw ⊢
    simp
    omega
  · intro h
    unfold flowL
    rw [resB_1 h, resV_1 h]
    simp

set_option maxRecDepth 100000 in
set_option maxHeartbeats 8000000 in
theorem sum_1 (s : Sty) (c : Int) (hM : mayB s = false) (w : World) :
    Calls Try.prog 3 #[.agg s.cells, .int .i64 c] w fun e w' => e = .returned (.bool true) ∧ Ext w w' := by
  have cM := fun w => hide (may_f s hM w)
  go_enter Try.func3, Try.ntmps3
  go_upto_region 1 with fail
  have Bs : Blk (w.alloc (.cells s.cells 28)) w.heap.size 28 s.cells := Blk.new _ _ _
  have E0 : Ext w (w.alloc (.cells s.cells 28)) := (Ext.refl _).alloc _
  generalize (w.alloc (.cells s.cells 28)) = wa at *
  generalize hgs : w.heap.size = g at *
  have HGS := hide hgs
  clear hgs
  refine wp_region_lin0 (fun w' => (ExtX wa w' [])) (fun ii vv ww => match ii with | 0 => vv = (.agg s.cells) | 1 => vv = .bool false | 2 => vv = .bool true | 3 => vv = .bool true | 4 => vv = undef | 5 => vv = undef | 6 => vv = .bool true | 7 => vv = .bool true | 8 => vv = undef | 9 => vv = undef | 10 => vv = .bool true | _ => True) (fun ii => match ii with | 1 => [(0, 12)] | 2 => [(1, 13)] | 3 => [(2, 14)] | 4 => [(3, 15)] | 5 => [(4, 16), (3, 15)] | 6 => [(3, 15), (5, 17)] | 7 => [(6, 18)] | 8 => [(7, 19)] | 9 => [(8, 20), (7, 19)] | 10 => [(7, 19), (9, 21)] | _ => []) (fun ii => match ii with | 0 => [2] | 4 => [1] | 8 => [1] | _ => []) (fun ii => match ii with | 4 => [3] | 5 => [3] | 8 => [7] | 9 => [7] | _ => []) [10] [0, 1, 3, 7, 15, 31, 63, 127, 255, 511, 1023] 151 rfl (by kernel_rfl) (ExtX.refl _ _) ?_ ?_
  · rename_i hcont; clear hcont
    refine ⟨?_, ?_, ?_, ?_, ?_, ?_, ?_, ?_, ?_, ?_, ?_, trivial⟩
    · refine stepL_plain rfl ?_
      rintro F a w1 jE - ⟨t2, -⟩ K hK
      have t2 : a.tmps[2]? = some (.pointer (some ⟨g, 0, none⟩)) := t2
      have c := (jE.blk Bs (by simp)).cell
      refine wp_load_blk 28 _ rfl g (eval_tmp t2) 28 s.cells _ (jE.blk Bs (by simp)) Try.underlying28 rfl (info_style s) ?_
      exact hK _ _ jE rfl (fun _ _ _ h => h)
    · refine stepL_plain rfl ?_
      rintro F a w1 jE ⟨h0, t12, -⟩ - K hK
      have h0 : (F 0) = (.agg s.cells) := h0
      rw [h0] at t12
      clear h0
      go_simp
      with_reducible refine (unhide (cM _)).mono ?_
      rintro e w2 ⟨rfl, hx⟩
      exact hK _ _ (jE.trans hx) (rfl) (fun _ hj _ _ => (List.not_mem_nil hj).elim)
    · refine stepL_plain rfl ?_
      rintro F a w1 jE ⟨h1, t13, -⟩ - K hK
      have h1 : (F 1) = .bool false := h1
      rw [h1] at t13
      clear h1
      go_simp
      exact hK _ _ jE rfl (fun _ _ _ h => h)
    · refine stepL_plain rfl ?_
      rintro F a w1 jE ⟨h2, t14, -⟩ - K hK
      have h2 : (F 2) = .bool true := h2
      rw [h2] at t14
      clear h2
      go_simp
      exact hK _ _ jE rfl (fun _ _ _ h => h)
    · refine stepL_of ?_
      rintro F a w1 jE ⟨h3, t15, -⟩ ⟨t1, -⟩ K hK
      have h3 : (F 3) = .bool true := h3
      rw [h3] at t15
      clear h3
      have t1 : a.tmps[1]? = some (.int .i64 c) := t1
      exact stepN ((wanted_of 3 false 15 _ rfl rfl t15).trans rfl) (hK undef _ jE rfl (fun _ _ _ h => h))
    · refine stepL_of ?_
      rintro F a w1 jE ⟨h4, t16, h3, t15, -⟩ - K hK
      have h4 : (F 4) = undef := h4
      rw [h4] at t16
      clear h4
      have h3 : (F 3) = .bool true := h3
      rw [h3] at t15
      clear h3
      exact stepN ((wanted_of 3 false 15 _ rfl rfl t15).trans rfl) (hK undef _ jE rfl (fun _ _ _ h => h))
    · refine stepL_plain rfl ?_
      rintro F a w1 jE ⟨h3, t15, h5, t17, -⟩ - K hK
      have h3 : (F 3) = .bool true := h3
      rw [h3] at t15
      clear h3
      have h5 : (F 5) = undef := h5
      rw [h5] at t17
      clear h5
      go_simp
      exact hK _ _ jE rfl (fun _ _ _ h => h)
    · refine stepL_plain rfl ?_
      rintro F a w1 jE ⟨h6, t18, -⟩ - K hK
      have h6 : (F 6) = .bool true := h6
      rw [h6] at t18
      clear h6
      go_simp
      exact hK _ _ jE rfl (fun _ _ _ h => h)
    · refine stepL_of ?_
      rintro F a w1 jE ⟨h7, t19, -⟩ ⟨t1, -⟩ K hK
      have h7 : (F 7) = .bool true := h7
      rw [h7] at t19
      clear h7
      have t1 : a.tmps[1]? = some (.int .i64 c) := t1
      exact stepN ((wanted_of 7 false 19 _ rfl rfl t19).trans rfl) (hK undef _ jE rfl (fun _ _ _ h => h))
    · refine stepL_of ?_
      rintro F a w1 jE ⟨h8, t20, h7, t19, -⟩ - K hK
      have h8 : (F 8) = undef := h8
      rw [h8] at t20
      clear h8
      have h7 : (F 7) = .bool true := h7
      rw [h7] at t19
      clear h7
      exact stepN ((wanted_of 7 false 19 _ rfl rfl t19).trans rfl) (hK undef _ jE rfl (fun _ _ _ h => h))
    · refine stepL_plain rfl ?_
      rintro F a w1 jE ⟨h7, t19, h9, t21, -⟩ - K hK
      have h7 : (F 7) = .bool true := h7
      rw [h7] at t19
      clear h7
      have h9 : (F 9) = undef := h9
      rw [h9] at t21
      clear h9
      go_simp
      exact hK _ _ jE rfl (fun _ _ _ h => h)
  · rintro F wb jE ⟨h10, -⟩
    have h10 : (F 10) = .bool true := h10
    have hx := jE.ext (Ext.refl _) (by simp)
    replace E0 := E0.trans hx
    clear jE hx Bs
    simp only [putL, Act.put, Nat.reduceAdd, Nat.zero_add, List.setIfInBounds_toArray, List.set_cons_succ, List.set_cons_zero]
    rw [h10]
    clear h10 cM
    go_upto_region 2 with fail
    go_wp2_with fail
    with_reducible refine (works_any _).mono ?_
    rintro e w5 ⟨rfl, hx⟩
    go_wp2_with fail
    go_ret
    exact ⟨rfl, E0.trans hx⟩

set_option maxRecDepth 100000 in
set_option maxHeartbeats 8000000 in
theorem sum_2 (s : Sty) (c : Int) (hM : mayB s = true) (h1 : c < 0) (w : World) :
    Calls Try.prog 3 #[.agg s.cells, .int .i64 c] w fun e w' => e = .returned (.bool true) ∧ Ext w w' := by
  have cM := fun w => hide (may_t s hM w)
  go_enter Try.func3, Try.ntmps3
  go_upto_region 1 with fail
  have Bs : Blk (w.alloc (.cells s.cells 28)) w.heap.size 28 s.cells := Blk.new _ _ _
  have E0 : Ext w (w.alloc (.cells s.cells 28)) := (Ext.refl _).alloc _
  generalize (w.alloc (.cells s.cells 28)) = wa at *
  generalize hgs : w.heap.size = g at *
  have HGS := hide hgs
  clear hgs
  refine wp_region_lin0 (fun w' => (ExtX wa w' [])) (fun ii vv ww => match ii with | 0 => vv = (.agg s.cells) | 1 => vv = .bool true | 2 => vv = .bool false | 3 => vv = .bool false | 4 => vv = .int .i64 c | 5 => vv = .bool true | 6 => vv = .bool true | 7 => vv = .bool true | 8 => vv = undef | 9 => vv = undef | 10 => vv = .bool true | _ => True) (fun ii => match ii with | 1 => [(0, 12)] | 2 => [(1, 13)] | 3 => [(2, 14)] | 4 => [(3, 15)] | 5 => [(4, 16), (3, 15)] | 6 => [(3, 15), (5, 17)] | 7 => [(6, 18)] | 8 => [(7, 19)] | 9 => [(8, 20), (7, 19)] | 10 => [(7, 19), (9, 21)] | _ => []) (fun ii => match ii with | 0 => [2] | 4 => [1] | 8 => [1] | _ => []) (fun ii => match ii with | 4 => [3] | 5 => [3] | 8 => [7] | 9 => [7] | _ => []) [10] [0, 1, 3, 7, 15, 31, 63, 127, 255, 511, 1023] 151 rfl (by kernel_rfl) (ExtX.refl _ _) ?_ ?_
  · rename_i hcont; clear hcont
    refine ⟨?_, ?_, ?_, ?_, ?_, ?_, ?_, ?_, ?_, ?_, ?_, trivial⟩
    · refine stepL_plain rfl ?_
      rintro F a w1 jE - ⟨t2, -⟩ K hK
      have t2 : a.tmps[2]? = some (.pointer (some ⟨g, 0, none⟩)) := t2
      have c := (jE.blk Bs (by simp)).cell
      refine wp_load_blk 28 _ rfl g (eval_tmp t2) 28 s.cells _ (jE.blk Bs (by simp)) Try.underlying28 rfl (info_style s) ?_
      exact hK _ _ jE rfl (fun _ _ _ h => h)
    · refine stepL_plain rfl ?_
      rintro F a w1 jE ⟨h0, t12, -⟩ - K hK
      have h0 : (F 0) = (.agg s.cells) := h0
      rw [h0] at t12
      clear h0
      go_simp
      with_reducible refine (unhide (cM _)).mono ?_
      rintro e w2 ⟨rfl, hx⟩
      exact hK _ _ (jE.trans hx) (rfl) (fun _ hj _ _ => (List.not_mem_nil hj).elim)
    · refine stepL_plain rfl ?_
      rintro F a w1 jE ⟨h1, t13, -⟩ - K hK
      have h1 : (F 1) = .bool true := h1
      rw [h1] at t13
      clear h1
      go_simp
      exact hK _ _ jE rfl (fun _ _ _ h => h)
    · refine stepL_plain rfl ?_
      rintro F a w1 jE ⟨h2, t14, -⟩ - K hK
      have h2 : (F 2) = .bool false := h2
      rw [h2] at t14
      clear h2
      go_simp
      exact hK _ _ jE rfl (fun _ _ _ h => h)
    · refine stepL_of ?_
      rintro F a w1 jE ⟨h3, t15, -⟩ ⟨t1, -⟩ K hK
      have h3 : (F 3) = .bool false := h3
      rw [h3] at t15
      clear h3
      have t1 : a.tmps[1]? = some (.int .i64 c) := t1
      refine stepY ((wanted_of 3 false 15 _ rfl rfl t15).trans rfl) ?_
      go_simp
      exact hK _ _ jE rfl (fun _ _ _ h => h)
    · refine stepL_of ?_
      rintro F a w1 jE ⟨h4, t16, h3, t15, -⟩ - K hK
      have h4 : (F 4) = .int .i64 c := h4
      rw [h4] at t16
      clear h4
      have h3 : (F 3) = .bool false := h3
      rw [h3] at t15
      clear h3
      refine stepY ((wanted_of 3 false 15 _ rfl rfl t15).trans rfl) ?_
      have e1 : decide (c < 0) = true := by simp; omega
      go_simp
      exact hK _ _ jE rfl (fun _ _ _ h => h)
    · refine stepL_plain rfl ?_
      rintro F a w1 jE ⟨h3, t15, h5, t17, -⟩ - K hK
      have h3 : (F 3) = .bool false := h3
      rw [h3] at t15
      clear h3
      have h5 : (F 5) = .bool true := h5
      rw [h5] at t17
      clear h5
      go_simp
      exact hK _ _ jE rfl (fun _ _ _ h => h)
    · refine stepL_plain rfl ?_
      rintro F a w1 jE ⟨h6, t18, -⟩ - K hK
      have h6 : (F 6) = .bool true := h6
      rw [h6] at t18
      clear h6
      go_simp
      exact hK _ _ jE rfl (fun _ _ _ h => h)
    · refine stepL_of ?_
      rintro F a w1 jE ⟨h7, t19, -⟩ ⟨t1, -⟩ K hK
      have h7 : (F 7) = .bool true := h7
      rw [h7] at t19
      clear h7
      have t1 : a.tmps[1]? = some (.int .i64 c) := t1
      exact stepN ((wanted_of 7 false 19 _ rfl rfl t19).trans rfl) (hK undef _ jE rfl (fun _ _ _ h => h))
    · refine stepL_of ?_
      rintro F a w1 jE ⟨h8, t20, h7, t19, -⟩ - K hK
      have h8 : (F 8) = undef := h8
      rw [h8] at t20
      clear h8
      have h7 : (F 7) = .bool true := h7
      rw [h7] at t19
      clear h7
      exact stepN ((wanted_of 7 false 19 _ rfl rfl t19).trans rfl) (hK undef _ jE rfl (fun _ _ _ h => h))
    · refine stepL_plain rfl ?_
      rintro F a w1 jE ⟨h7, t19, h9, t21, -⟩ - K hK
      have h7 : (F 7) = .bool true := h7
      rw [h7] at t19
      clear h7
      have h9 : (F 9) = undef := h9
      rw [h9] at t21
      clear h9
      go_simp
      exact hK _ _ jE rfl (fun _ _ _ h => h)
  · rintro F wb jE ⟨h10, -⟩
    have h10 : (F 10) = .bool true := h10
    have hx := jE.ext (Ext.refl _) (by simp)
    replace E0 := E0.trans hx
    clear jE hx Bs
    simp only [putL, Act.put, Nat.reduceAdd, Nat.zero_add, List.setIfInBounds_toArray, List.set_cons_succ, List.set_cons_zero]
    rw [h10]
    clear h10 cM
    go_upto_region 2 with fail
    go_wp2_with fail
    with_reducible refine (works_any _).mono ?_
    rintro e w5 ⟨rfl, hx⟩
    go_wp2_with fail
    go_ret
    exact ⟨rfl, E0.trans hx⟩

set_option maxRecDepth 100000 in
set_option maxHeartbeats 8000000 in
theorem sum_3 (s : Sty) (c : Int) (hM : mayB s = true) (h1 : 0 ≤ c) (h2 : 1099511627776 < c) (w : World) :
    Calls Try.prog 3 #[.agg s.cells, .int .i64 c] w fun e w' => e = .returned (.bool true) ∧ Ext w w' := by
  have cM := fun w => hide (may_t s hM w)
  go_enter Try.func3, Try.ntmps3
  go_upto_region 1 with fail
  have Bs : Blk (w.alloc (.cells s.cells 28)) w.heap.size 28 s.cells := Blk.new _ _ _
  have E0 : Ext w (w.alloc (.cells s.cells 28)) := (Ext.refl _).alloc _
  generalize (w.alloc (.cells s.cells 28)) = wa at *
  generalize hgs : w.heap.size = g at *
  have HGS := hide hgs
  clear hgs
  refine wp_region_lin0 (fun w' => (ExtX wa w' [])) (fun ii vv ww => match ii with | 0 => vv = (.agg s.cells) | 1 => vv = .bool true | 2 => vv = .bool false | 3 => vv = .bool false | 4 => vv = .int .i64 c | 5 => vv = .bool false | 6 => vv = .bool false | 7 => vv = .bool false | 8 => vv = .int .i64 c | 9 => vv = .bool true | 10 => vv = .bool true | _ => True) (fun ii => match ii with | 1 => [(0, 12)] | 2 => [(1, 13)] | 3 => [(2, 14)] | 4 => [(3, 15)] | 5 => [(4, 16), (3, 15)] | 6 => [(3, 15), (5, 17)] | 7 => [(6, 18)] | 8 => [(7, 19)] | 9 => [(8, 20), (7, 19)] | 10 => [(7, 19), (9, 21)] | _ => []) (fun ii => match ii with | 0 => [2] | 4 => [1] | 8 => [1] | _ => []) (fun ii => match ii with | 4 => [3] | 5 => [3] | 8 => [7] | 9 => [7] | _ => []) [10] [0, 1, 3, 7, 15, 31, 63, 127, 255, 511, 1023] 151 rfl (by kernel_rfl) (ExtX.refl _ _) ?_ ?_
  · rename_i hcont; clear hcont
    refine ⟨?_, ?_, ?_, ?_, ?_, ?_, ?_, ?_, ?_, ?_, ?_, trivial⟩
    · refine stepL_plain rfl ?_
      rintro F a w1 jE - ⟨t2, -⟩ K hK
      have t2 : a.tmps[2]? = some (.pointer (some ⟨g, 0, none⟩)) := t2
      have c := (jE.blk Bs (by simp)).cell
      refine wp_load_blk 28 _ rfl g (eval_tmp t2) 28 s.cells _ (jE.blk Bs (by simp)) Try.underlying28 rfl (info_style s) ?_
      exact hK _ _ jE rfl (fun _ _ _ h => h)
    · refine stepL_plain rfl ?_
      rintro F a w1 jE ⟨h0, t12, -⟩ - K hK
      have h0 : (F 0) = (.agg s.cells) := h0
      rw [h0] at t12
      clear h0
      go_simp
      with_reducible refine (unhide (cM _)).mono ?_
      rintro e w2 ⟨rfl, hx⟩
      exact hK _ _ (jE.trans hx) (rfl) (fun _ hj _ _ => (List.not_mem_nil hj).elim)
    · refine stepL_plain rfl ?_
      rintro F a w1 jE ⟨h1, t13, -⟩ - K hK
      have h1 : (F 1) = .bool true := h1
      rw [h1] at t13
      clear h1
      go_simp
      exact hK _ _ jE rfl (fun _ _ _ h => h)
    · refine stepL_plain rfl ?_
      rintro F a w1 jE ⟨h2, t14, -⟩ - K hK
      have h2 : (F 2) = .bool false := h2
      rw [h2] at t14
      clear h2
      go_simp
      exact hK _ _ jE rfl (fun _ _ _ h => h)
    · refine stepL_of ?_
      rintro F a w1 jE ⟨h3, t15, -⟩ ⟨t1, -⟩ K hK
      have h3 : (F 3) = .bool false := h3
      rw [h3] at t15
      clear h3
      have t1 : a.tmps[1]? = some (.int .i64 c) := t1
      refine stepY ((wanted_of 3 false 15 _ rfl rfl t15).trans rfl) ?_
      go_simp
      exact hK _ _ jE rfl (fun _ _ _ h => h)
    · refine stepL_of ?_
      rintro F a w1 jE ⟨h4, t16, h3, t15, -⟩ - K hK
      have h4 : (F 4) = .int .i64 c := h4
      rw [h4] at t16
      clear h4
      have h3 : (F 3) = .bool false := h3
      rw [h3] at t15
      clear h3
      refine stepY ((wanted_of 3 false 15 _ rfl rfl t15).trans rfl) ?_
      have e1 : decide (c < 0) = false := by simp; omega
      go_simp
      exact hK _ _ jE rfl (fun _ _ _ h => h)
    · refine stepL_plain rfl ?_
      rintro F a w1 jE ⟨h3, t15, h5, t17, -⟩ - K hK
      have h3 : (F 3) = .bool false := h3
      rw [h3] at t15
      clear h3
      have h5 : (F 5) = .bool false := h5
      rw [h5] at t17
      clear h5
      go_simp
      exact hK _ _ jE rfl (fun _ _ _ h => h)
    · refine stepL_plain rfl ?_
      rintro F a w1 jE ⟨h6, t18, -⟩ - K hK
      have h6 : (F 6) = .bool false := h6
      rw [h6] at t18
      clear h6
      go_simp
      exact hK _ _ jE rfl (fun _ _ _ h => h)
    · refine stepL_of ?_
      rintro F a w1 jE ⟨h7, t19, -⟩ ⟨t1, -⟩ K hK
      have h7 : (F 7) = .bool false := h7
      rw [h7] at t19
      clear h7
      have t1 : a.tmps[1]? = some (.int .i64 c) := t1
      refine stepY ((wanted_of 7 false 19 _ rfl rfl t19).trans rfl) ?_
      go_simp
      exact hK _ _ jE rfl (fun _ _ _ h => h)
    · refine stepL_of ?_
      rintro F a w1 jE ⟨h8, t20, h7, t19, -⟩ - K hK
      have h8 : (F 8) = .int .i64 c := h8
      rw [h8] at t20
      clear h8
      have h7 : (F 7) = .bool false := h7
      rw [h7] at t19
      clear h7
      refine stepY ((wanted_of 7 false 19 _ rfl rfl t19).trans rfl) ?_
      have e1 : decide (1099511627776 < c) = true := by simp; omega
      go_simp
      exact hK _ _ jE rfl (fun _ _ _ h => h)
    · refine stepL_plain rfl ?_
      rintro F a w1 jE ⟨h7, t19, h9, t21, -⟩ - K hK
      have h7 : (F 7) = .bool false := h7
      rw [h7] at t19
      clear h7
      have h9 : (F 9) = .bool true := h9
      rw [h9] at t21
      clear h9
      go_simp
      exact hK _ _ jE rfl (fun _ _ _ h => h)
  · rintro F wb jE ⟨h10, -⟩
    have h10 : (F 10) = .bool true := h10
    have hx := jE.ext (Ext.refl _) (by simp)
    replace E0 := E0.trans hx
    clear jE hx Bs
    simp only [putL, Act.put, Nat.reduceAdd, Nat.zero_add, List.setIfInBounds_toArray, List.set_cons_succ, List.set_cons_zero]
    rw [h10]
    clear h10 cM
    go_upto_region 2 with fail
    go_wp2_with fail
    with_reducible refine (works_any _).mono ?_
    rintro e w5 ⟨rfl, hx⟩
    go_wp2_with fail
    go_ret
    exact ⟨rfl, E0.trans hx⟩

set_option maxRecDepth 100000 in
set_option maxHeartbeats 8000000 in
theorem sum_4 (s : Sty) (c : Int) (hM : mayB s = true) (h1 : 0 ≤ c) (h2 : c ≤ 1099511627776) (hB : (cutB (flowW s c) || cutB (flowL s c) || cutB (flowR s c)) = true) (w : World) :
    Calls Try.prog 3 #[.agg s.cells, .int .i64 c] w fun e w' => e = .returned (.bool true) ∧ Ext w w' := by
  have ec : max c 0 = c := by omega
  have cF := fun w => flow_any s c hM h2 w
  rw [ec] at cF
  have hR : flowR s c = c - (s.b3 + s.b1 + s.p3 + s.p1) - flowW s c - flowL s c := rfl
  have cM := fun w => hide (may_t s hM w)
  rw [hB] at cF
  generalize cutV (flowW s c) = W' at *
  generalize cutV (flowL s c) = L' at *
  generalize cutV (flowR s c) = R' at *
  have cF := fun w => hide (cF w)
  clear hB hR ec
  go_enter Try.func3, Try.ntmps3
  go_upto_region 1 with fail
  have Bs : Blk (w.alloc (.cells s.cells 28)) w.heap.size 28 s.cells := Blk.new _ _ _
  have E0 : Ext w (w.alloc (.cells s.cells 28)) := (Ext.refl _).alloc _
  generalize (w.alloc (.cells s.cells 28)) = wa at *
  generalize hgs : w.heap.size = g at *
  have HGS := hide hgs
  clear hgs
  refine wp_region_lin0 (fun w' => (ExtX wa w' [])) (fun ii vv ww => match ii with | 0 => vv = (.agg s.cells) | 1 => vv = .bool true | 2 => vv = .bool false | 3 => vv = .bool false | 4 => vv = .int .i64 c | 5 => vv = .bool false | 6 => vv = .bool false | 7 => vv = .bool false | 8 => vv = .int .i64 c | 9 => vv = .bool false | 10 => vv = .bool false | _ => True) (fun ii => match ii with | 1 => [(0, 12)] | 2 => [(1, 13)] | 3 => [(2, 14)] | 4 => [(3, 15)] | 5 => [(4, 16), (3, 15)] | 6 => [(3, 15), (5, 17)] | 7 => [(6, 18)] | 8 => [(7, 19)] | 9 => [(8, 20), (7, 19)] | 10 => [(7, 19), (9, 21)] | _ => []) (fun ii => match ii with | 0 => [2] | 4 => [1] | 8 => [1] | _ => []) (fun ii => match ii with | 4 => [3] | 5 => [3] | 8 => [7] | 9 => [7] | _ => []) [10] [0, 1, 3, 7, 15, 31, 63, 127, 255, 511, 1023] 151 rfl (by kernel_rfl) (ExtX.refl _ _) ?_ ?_
  · rename_i hcont; clear hcont
    refine ⟨?_, ?_, ?_, ?_, ?_, ?_, ?_, ?_, ?_, ?_, ?_, trivial⟩
    · refine stepL_plain rfl ?_
      rintro F a w1 jE - ⟨t2, -⟩ K hK
      have t2 : a.tmps[2]? = some (.pointer (some ⟨g, 0, none⟩)) := t2
      have c := (jE.blk Bs (by simp)).cell
      refine wp_load_blk 28 _ rfl g (eval_tmp t2) 28 s.cells _ (jE.blk Bs (by simp)) Try.underlying28 rfl (info_style s) ?_
      exact hK _ _ jE rfl (fun _ _ _ h => h)
    · refine stepL_plain rfl ?_
      rintro F a w1 jE ⟨h0, t12, -⟩ - K hK
      have h0 : (F 0) = (.agg s.cells) := h0
      rw [h0] at t12
      clear h0
      go_simp
      with_reducible refine (unhide (cM _)).mono ?_
      rintro e w2 ⟨rfl, hx⟩
      exact hK _ _ (jE.trans hx) (rfl) (fun _ hj _ _ => (List.not_mem_nil hj).elim)
    · refine stepL_plain rfl ?_
      rintro F a w1 jE ⟨h1, t13, -⟩ - K hK
      have h1 : (F 1) = .bool true := h1
      rw [h1] at t13
      clear h1
      go_simp
      exact hK _ _ jE rfl (fun _ _ _ h => h)
    · refine stepL_plain rfl ?_
      rintro F a w1 jE ⟨h2, t14, -⟩ - K hK
      have h2 : (F 2) = .bool false := h2
      rw [h2] at t14
      clear h2
      go_simp
      exact hK _ _ jE rfl (fun _ _ _ h => h)
    · refine stepL_of ?_
      rintro F a w1 jE ⟨h3, t15, -⟩ ⟨t1, -⟩ K hK
      have h3 : (F 3) = .bool false := h3
      rw [h3] at t15
      clear h3
      have t1 : a.tmps[1]? = some (.int .i64 c) := t1
      refine stepY ((wanted_of 3 false 15 _ rfl rfl t15).trans rfl) ?_
      go_simp
      exact hK _ _ jE rfl (fun _ _ _ h => h)
    · refine stepL_of ?_
      rintro F a w1 jE ⟨h4, t16, h3, t15, -⟩ - K hK
      have h4 : (F 4) = .int .i64 c := h4
      rw [h4] at t16
      clear h4
      have h3 : (F 3) = .bool false := h3
      rw [h3] at t15
      clear h3
      refine stepY ((wanted_of 3 false 15 _ rfl rfl t15).trans rfl) ?_
      have e1 : decide (c < 0) = false := by simp; omega
      go_simp
      exact hK _ _ jE rfl (fun _ _ _ h => h)
    · refine stepL_plain rfl ?_
      rintro F a w1 jE ⟨h3, t15, h5, t17, -⟩ - K hK
      have h3 : (F 3) = .bool false := h3
      rw [h3] at t15
      clear h3
      have h5 : (F 5) = .bool false := h5
      rw [h5] at t17
      clear h5
      go_simp
      exact hK _ _ jE rfl (fun _ _ _ h => h)
    · refine stepL_plain rfl ?_
      rintro F a w1 jE ⟨h6, t18, -⟩ - K hK
      have h6 : (F 6) = .bool false := h6
      rw [h6] at t18
      clear h6
      go_simp
      exact hK _ _ jE rfl (fun _ _ _ h => h)
    · refine stepL_of ?_
      rintro F a w1 jE ⟨h7, t19, -⟩ ⟨t1, -⟩ K hK
      have h7 : (F 7) = .bool false := h7
      rw [h7] at t19
      clear h7
      have t1 : a.tmps[1]? = some (.int .i64 c) := t1
      refine stepY ((wanted_of 7 false 19 _ rfl rfl t19).trans rfl) ?_
      go_simp
      exact hK _ _ jE rfl (fun _ _ _ h => h)
    · refine stepL_of ?_
      rintro F a w1 jE ⟨h8, t20, h7, t19, -⟩ - K hK
      have h8 : (F 8) = .int .i64 c := h8
      rw [h8] at t20
      clear h8
      have h7 : (F 7) = .bool false := h7
      rw [h7] at t19
      clear h7
      refine stepY ((wanted_of 7 false 19 _ rfl rfl t19).trans rfl) ?_
      have e1 : decide (1099511627776 < c) = false := by simp; omega
      go_simp
      exact hK _ _ jE rfl (fun _ _ _ h => h)
    · refine stepL_plain rfl ?_
      rintro F a w1 jE ⟨h7, t19, h9, t21, -⟩ - K hK
      have h7 : (F 7) = .bool false := h7
      rw [h7] at t19
      clear h7
      have h9 : (F 9) = .bool false := h9
      rw [h9] at t21
      clear h9
      go_simp
      exact hK _ _ jE rfl (fun _ _ _ h => h)
  · rintro F wb jE ⟨h10, -⟩
    have h10 : (F 10) = .bool false := h10
    have hx := jE.ext (Ext.refl _) (by simp)
    replace E0 := E0.trans hx
    replace Bs := Bs.ext hx
    clear jE hx
    simp only [putL, Act.put, Nat.reduceAdd, Nat.zero_add, List.setIfInBounds_toArray, List.set_cons_succ, List.set_cons_zero]
    rw [h10]
    clear h10 cM
    go_upto_region 3 with fail
    go_step
    refine wpList_load_blk rfl 28 _ rfl g rfl 28 s.cells _ Bs Try.underlying28 rfl (info_style s) ?_
    simp only [Act.put, List.setIfInBounds_toArray, List.set_cons_succ, List.set_cons_zero]
    go_wp2_with fail
    with_reducible refine (unhide (cF _)).mono ?_
    rintro e w3 ⟨rfl, hx⟩
    replace E0 := E0.trans hx
    replace Bs := Bs.ext hx
    clear hx cF
    go_upto_region 5 with fail
    go_wp2_with fail
    with_reducible refine (works_any _).mono ?_
    rintro e w5 ⟨rfl, hx⟩
    go_wp2_with fail
    go_ret
    exact ⟨rfl, (E0.alloc _).trans hx⟩

set_option maxRecDepth 100000 in
set_option maxHeartbeats 16000000 in
theorem sum_5 (s : Sty) (c : Int) (hM : mayB s = true) (h1 : 0 ≤ c) (h2 : c ≤ 1099511627776) (hB : (cutB (flowW s c) || cutB (flowL s c) || cutB (flowR s c)) = false) (w : World) :
    Calls Try.prog 3 #[.agg s.cells, .int .i64 c] w fun e w' => e = .returned (.bool true) ∧ Ext w w' := by
  have HF0 := sum_facts (c := c) hM
  obtain ⟨⟨e0, e1, e2, e3, et⟩, ew, emi, ema⟩ := may_facts hM
  obtain ⟨hf1, hf2⟩ : 0 ≤ s.b3 + s.b1 + s.p3 + s.p1 ∧ s.b3 + s.b1 + s.p3 + s.p1 ≤ 4398046511104 := by
    have := et.b3; have := et.b1; have := et.p3; have := et.p1; omega
  obtain ⟨⟨a1, a2⟩, ⟨a3, a4⟩, ⟨a5, a6⟩, ⟨a7, a8⟩, ⟨a9, a10⟩, ⟨a11, a12⟩, ⟨a13, a14⟩, ⟨a15, a16⟩⟩ := et
  have qi := lenMay_part (by decide) emi
  have qa := lenMay_part (by decide) ema
  have cmi := fun w => hide (resolve_any s.minw c qi h2 w)
  have cma := fun w => hide (resolve_any s.maxw c qa h2 w)
  have ec : max c 0 = c := by omega
  have cF := fun w => flow_any s c hM h2 w
  rw [ec] at cF
  have hR : flowR s c = c - (s.b3 + s.b1 + s.p3 + s.p1) - flowW s c - flowL s c := rfl
  have cM := fun w => hide (may_t s hM w)
  clear e0 e1 e2 e3 ew emi ema ec qi qa hM
  generalize resV s.minw c = mi at *
  generalize resV s.maxw c = ma at *
  generalize resB s.minw = bi at *
  generalize resB s.maxw = bo at *
  generalize flowW s c = W at *
  generalize flowL s c = LL at *
  generalize flowR s c = R at *
  obtain ⟨FW, hF⟩ : ∃ FW, s.b3 + s.b1 + s.p3 + s.p1 = FW := ⟨_, rfl⟩
  rw [hF] at hR hf1 hf2
  have hB' : ((-1099511627776 ≤ W ∧ W ≤ 1099511627776) ∧ (-1099511627776 ≤ LL ∧ LL ≤ 1099511627776)) ∧ (-1099511627776 ≤ R ∧ R ≤ 1099511627776) := by
    simp only [cutB, Bool.or_eq_false_iff, decide_eq_false_iff_not] at hB
    omega
  rw [hB] at cF
  obtain ⟨⟨⟨w1, w2⟩, ⟨w3, w4⟩⟩, ⟨w5, w6⟩⟩ := hB'
  have cv : ∀ y : Int, -1099511627776 ≤ y → y ≤ 1099511627776 → cutV y = y := fun y q1 q2 => by unfold cutV; rw [if_neg (by omega), if_neg (by omega)]
  rw [cv W w1 w2, cv LL w3 w4, cv R w5 w6] at cF
  have cF := fun w => hide (cF w)
  obtain ⟨f0, f1, f2, f3, f4, f5⟩ := HF0
  clear hB cv
  have HS := hide (show LL + FW + W + R = c by omega)
  obtain ⟨x1, hx1⟩ : ∃ x, decide (W < mi) = x := ⟨_, rfl⟩
  obtain ⟨x2, hx2⟩ : ∃ x, decide (ma < W) = x := ⟨_, rfl⟩
  obtain ⟨x3, hx3⟩ : ∃ x, (W == mi) = x := ⟨_, rfl⟩
  obtain ⟨k0, hk0⟩ : ∃ x, (s.m3.k == 0) = x := ⟨_, rfl⟩
  obtain ⟨y0, hy0⟩ : ∃ x, decide (LL < 0) = x := ⟨_, rfl⟩
  obtain ⟨k1, hk1⟩ : ∃ x, (s.w.k == 1) = x := ⟨_, rfl⟩
  obtain ⟨y1, hy1⟩ : ∃ x, (W == s.w.n) = x := ⟨_, rfl⟩
  obtain ⟨k2, hk2⟩ : ∃ x, (s.m3.k == 1) = x := ⟨_, rfl⟩
  obtain ⟨y2, hy2⟩ : ∃ x, (LL == s.m3.n) = x := ⟨_, rfl⟩
  have T1 : ((bi && x1) || ((bo && x2) && !(bi && x3))) = false := by
    rw [← hx1, ← hx2, ← hx3]
    cases bi <;> cases bo <;> simp at f1 f2 ⊢ <;> omega
  have T2 : (k0 && y0) = false := by
    rw [← hk0, ← hy0]
    by_cases h : s.m3.k = 0
    · have := f3 h; simp [h]; omega
    · simp [h]
  have T3 : (((k1 && !bi) && !bo) && !y1) = false := by
    rw [← hk1, ← hy1]
    by_cases h : s.w.k = 1
    · cases bi <;> cases bo <;> simp [h]
      exact f4 h rfl rfl
    · simp [h]
  have T4 : (!k2 || y2) = true := by
    rw [← hk2, ← hy2]
    by_cases h : s.m3.k = 1
    · simp [h]; exact f5 h
    · simp [h]
  clear f1 f2 f3 f4 f5
  have HhF := hide hF
  have Hhx1 := hide hx1
  have Hhx2 := hide hx2
  have Hhx3 := hide hx3
  have Hhk0 := hide hk0
  have Hhy0 := hide hy0
  have Hhk1 := hide hk1
  have Hhy1 := hide hy1
  have Hhk2 := hide hk2
  have Hhy2 := hide hy2
  have HT1 := hide T1
  have HT2 := hide T2
  have HT3 := hide T3
  have HT4 := hide T4
  clear hR hF hx1 hx2 hx3 hk0 hy0 hk1 hy1 hk2 hy2 T1 T2 T3 T4
  go_enter Try.func3, Try.ntmps3
  go_upto_region 1 with fail
  have Bs : Blk (w.alloc (.cells s.cells 28)) w.heap.size 28 s.cells := Blk.new _ _ _
  have E0 : Ext w (w.alloc (.cells s.cells 28)) := (Ext.refl _).alloc _
  generalize (w.alloc (.cells s.cells 28)) = wa at *
  generalize hgs : w.heap.size = g at *
  have HGS := hide hgs
  clear hgs
  refine wp_region_lin0 (fun w' => (ExtX wa w' [])) (fun ii vv ww => match ii with | 0 => vv = (.agg s.cells) | 1 => vv = .bool true | 2 => vv = .bool false | 3 => vv = .bool false | 4 => vv = .int .i64 c | 5 => vv = .bool false | 6 => vv = .bool false | 7 => vv = .bool false | 8 => vv = .int .i64 c | 9 => vv = .bool false | 10 => vv = .bool false | _ => True) (fun ii => match ii with | 1 => [(0, 12)] | 2 => [(1, 13)] | 3 => [(2, 14)] | 4 => [(3, 15)] | 5 => [(4, 16), (3, 15)] | 6 => [(3, 15), (5, 17)] | 7 => [(6, 18)] | 8 => [(7, 19)] | 9 => [(8, 20), (7, 19)] | 10 => [(7, 19), (9, 21)] | _ => []) (fun ii => match ii with | 0 => [2] | 4 => [1] | 8 => [1] | _ => []) (fun ii => match ii with | 4 => [3] | 5 => [3] | 8 => [7] | 9 => [7] | _ => []) [10] [0, 1, 3, 7, 15, 31, 63, 127, 255, 511, 1023] 151 rfl (by kernel_rfl) (ExtX.refl _ _) ?_ ?_
  · rename_i hcont; clear hcont
    refine ⟨?_, ?_, ?_, ?_, ?_, ?_, ?_, ?_, ?_, ?_, ?_, trivial⟩
    · refine stepL_plain rfl ?_
      rintro F a w1 jE - ⟨t2, -⟩ K hK
      have t2 : a.tmps[2]? = some (.pointer (some ⟨g, 0, none⟩)) := t2
      have c := (jE.blk Bs (by simp)).cell
      refine wp_load_blk 28 _ rfl g (eval_tmp t2) 28 s.cells _ (jE.blk Bs (by simp)) Try.underlying28 rfl (info_style s) ?_
      exact hK _ _ jE rfl (fun _ _ _ h => h)
    · refine stepL_plain rfl ?_
      rintro F a w1 jE ⟨h0, t12, -⟩ - K hK
      have h0 : (F 0) = (.agg s.cells) := h0
      rw [h0] at t12
      clear h0
      go_simp
      with_reducible refine (unhide (cM _)).mono ?_
      rintro e w2 ⟨rfl, hx⟩
      exact hK _ _ (jE.trans hx) (rfl) (fun _ hj _ _ => (List.not_mem_nil hj).elim)
    · refine stepL_plain rfl ?_
      rintro F a w1 jE ⟨h1, t13, -⟩ - K hK
      have h1 : (F 1) = .bool true := h1
      rw [h1] at t13
      clear h1
      go_simp
      exact hK _ _ jE rfl (fun _ _ _ h => h)
    · refine stepL_plain rfl ?_
      rintro F a w1 jE ⟨h2, t14, -⟩ - K hK
      have h2 : (F 2) = .bool false := h2
      rw [h2] at t14
      clear h2
      go_simp
      exact hK _ _ jE rfl (fun _ _ _ h => h)
    · refine stepL_of ?_
      rintro F a w1 jE ⟨h3, t15, -⟩ ⟨t1, -⟩ K hK
      have h3 : (F 3) = .bool false := h3
      rw [h3] at t15
      clear h3
      have t1 : a.tmps[1]? = some (.int .i64 c) := t1
      refine stepY ((wanted_of 3 false 15 _ rfl rfl t15).trans rfl) ?_
      go_simp
      exact hK _ _ jE rfl (fun _ _ _ h => h)
    · refine stepL_of ?_
      rintro F a w1 jE ⟨h4, t16, h3, t15, -⟩ - K hK
      have h4 : (F 4) = .int .i64 c := h4
      rw [h4] at t16
      clear h4
      have h3 : (F 3) = .bool false := h3
      rw [h3] at t15
      clear h3
      refine stepY ((wanted_of 3 false 15 _ rfl rfl t15).trans rfl) ?_
      have e1 : decide (c < 0) = false := by simp; omega
      go_simp
      exact hK _ _ jE rfl (fun _ _ _ h => h)
    · refine stepL_plain rfl ?_
      rintro F a w1 jE ⟨h3, t15, h5, t17, -⟩ - K hK
      have h3 : (F 3) = .bool false := h3
      rw [h3] at t15
      clear h3
      have h5 : (F 5) = .bool false := h5
      rw [h5] at t17
      clear h5
      go_simp
      exact hK _ _ jE rfl (fun _ _ _ h => h)
    · refine stepL_plain rfl ?_
      rintro F a w1 jE ⟨h6, t18, -⟩ - K hK
      have h6 : (F 6) = .bool false := h6
      rw [h6] at t18
      clear h6
      go_simp
      exact hK _ _ jE rfl (fun _ _ _ h => h)
    · refine stepL_of ?_
      rintro F a w1 jE ⟨h7, t19, -⟩ ⟨t1, -⟩ K hK
      have h7 : (F 7) = .bool false := h7
      rw [h7] at t19
      clear h7
      have t1 : a.tmps[1]? = some (.int .i64 c) := t1
      refine stepY ((wanted_of 7 false 19 _ rfl rfl t19).trans rfl) ?_
      go_simp
      exact hK _ _ jE rfl (fun _ _ _ h => h)
    · refine stepL_of ?_
      rintro F a w1 jE ⟨h8, t20, h7, t19, -⟩ - K hK
      have h8 : (F 8) = .int .i64 c := h8
      rw [h8] at t20
      clear h8
      have h7 : (F 7) = .bool false := h7
      rw [h7] at t19
      clear h7
      refine stepY ((wanted_of 7 false 19 _ rfl rfl t19).trans rfl) ?_
      have e1 : decide (1099511627776 < c) = false := by simp; omega
      go_simp
      exact hK _ _ jE rfl (fun _ _ _ h => h)
    · refine stepL_plain rfl ?_
      rintro F a w1 jE ⟨h7, t19, h9, t21, -⟩ - K hK
      have h7 : (F 7) = .bool false := h7
      rw [h7] at t19
      clear h7
      have h9 : (F 9) = .bool false := h9
      rw [h9] at t21
      clear h9
      go_simp
      exact hK _ _ jE rfl (fun _ _ _ h => h)
  · rintro F wb jE ⟨h10, -⟩
    have h10 : (F 10) = .bool false := h10
    have hx := jE.ext (Ext.refl _) (by simp)
    replace E0 := E0.trans hx
    replace Bs := Bs.ext hx
    clear jE hx
    simp only [putL, Act.put, Nat.reduceAdd, Nat.zero_add, List.setIfInBounds_toArray, List.set_cons_succ, List.set_cons_zero]
    rw [h10]
    clear h10 cM
    go_upto_region 3 with fail
    go_step
    refine wpList_load_blk rfl 28 _ rfl g rfl 28 s.cells _ Bs Try.underlying28 rfl (info_style s) ?_
    simp only [Act.put, List.setIfInBounds_toArray, List.set_cons_succ, List.set_cons_zero]
    go_wp2_with fail
    with_reducible refine (unhide (cF _)).mono ?_
    rintro e w3 ⟨rfl, hx⟩
    replace E0 := E0.trans hx
    replace Bs := Bs.ext hx
    clear hx cF
    go_upto_region 4 with fail
    have Bu : Blk (w3.alloc (.cells #[.int .i64 W, .int .i64 LL, .int .i64 R] 32)) w3.heap.size 32 #[.int .i64 W, .int .i64 LL, .int .i64 R] := Blk.new _ _ _
    replace E0 := E0.alloc (.cells #[.int .i64 W, .int .i64 LL, .int .i64 R] 32)
    replace Bs := Bs.alloc (.cells #[.int .i64 W, .int .i64 LL, .int .i64 R] 32)
    generalize hgu : w3.heap.size = gu at *
    generalize w3.alloc (.cells #[.int .i64 W, .int .i64 LL, .int .i64 R] 32) = w4 at *
    clear hgu
    have dS := Bs.cell
    have lS := Bs.lt
    have hF := unhide HhF
    go_upto_region 7 with fail
    clear hF dS lS
    refine wp_region_lin0 (fun w' => (ExtX w4 w' [])) (fun ii vv ww => match ii with | 0 => vv = .pointer (some ⟨gu, 1, none⟩) | 1 => vv = .int .i64 LL | 2 => vv = .int .i64 FW | 3 => vv = .int .i64 (LL + FW) | 4 => vv = .pointer (some ⟨gu, 0, none⟩) | 5 => vv = .int .i64 W | 6 => vv = .int .i64 (LL + FW + W) | 7 => vv = .pointer (some ⟨gu, 2, none⟩) | 8 => vv = .int .i64 R | 9 => vv = .int .i64 (LL + FW + W + R) | 10 => vv = .int .i64 c | 11 => vv = .bool false | 12 => vv = .bool false | 13 => vv = .pointer (some ⟨gu, 0, none⟩) | 14 => vv = .int .i64 W | 15 => vv = .bool false | 16 => vv = .bool false | _ => True) (fun ii => match ii with | 1 => [(0, 47)] | 3 => [(1, 48), (2, 49)] | 5 => [(4, 51)] | 6 => [(3, 50), (5, 52)] | 8 => [(7, 54)] | 9 => [(6, 53), (8, 55)] | 11 => [(9, 56), (10, 57)] | 12 => [(11, 58)] | 13 => [(12, 59)] | 14 => [(13, 60), (12, 59)] | 15 => [(14, 61), (12, 59)] | 16 => [(12, 59), (15, 62)] | _ => []) (fun ii => match ii with | 0 => [5] | 2 => [7] | 4 => [5] | 7 => [5] | 10 => [1] | 13 => [5] | _ => []) (fun ii => match ii with | 0 => [2, 4, 5, 7, 8, 10] | 1 => [2, 4, 5, 7, 8, 10] | 2 => [0, 1, 4, 5, 7, 8, 10] | 3 => [4, 5, 7, 8, 10] | 4 => [0, 1, 2, 3, 7, 8, 10] | 5 => [0, 1, 2, 3, 7, 8, 10] | 6 => [7, 8, 10] | 7 => [0, 1, 2, 4, 3, 5, 6, 10] | 8 => [0, 1, 2, 4, 3, 5, 6, 10] | 9 => [10] | 10 => [0, 1, 2, 4, 3, 5, 7, 6, 8, 9] | 13 => [12] | 14 => [12] | 15 => [12] | _ => []) [16] [0, 1, 0, 7, 0, 16, 63, 0, 128, 511, 0, 2047, 4095, 8191, 16383, 32767, 65535] 151 rfl (by kernel_rfl) (ExtX.refl _ _) ?_ ?_
    · rename_i hcont; clear hcont
      refine ⟨?_, ?_, ?_, ?_, ?_, ?_, ?_, ?_, ?_, ?_, ?_, ?_, ?_, ?_, ?_, ?_, ?_, trivial⟩
      · refine stepL_plain rfl ?_
        rintro F a w1 jE - ⟨t5, -⟩ K hK
        have t5 : a.tmps[5]? = some (.pointer (some ⟨gu, 0, none⟩)) := t5
        go_simp
        exact hK _ _ jE rfl (fun _ _ _ h => h)
      · refine stepL_plain rfl ?_
        rintro F a w1 jE ⟨h0, t47, -⟩ - K hK
        have h0 : (F 0) = .pointer (some ⟨gu, 1, none⟩) := h0
        rw [h0] at t47
        clear h0
        have c := (jE.blk Bu (by simp)).cell
        go_simp
        exact hK _ _ jE rfl (fun _ _ _ h => h)
      · refine stepL_plain rfl ?_
        rintro F a w1 jE - ⟨t7, -⟩ K hK
        have t7 : a.tmps[7]? = some (.int .i64 FW) := t7
        go_simp
        exact hK _ _ jE rfl (fun _ _ _ h => h)
      · refine stepL_plain rfl ?_
        rintro F a w1 jE ⟨h1, t48, h2, t49, -⟩ - K hK
        have h1 : (F 1) = .int .i64 LL := h1
        rw [h1] at t48
        clear h1
        have h2 : (F 2) = .int .i64 FW := h2
        rw [h2] at t49
        clear h2
        have e1 : IntKind.i64.wrap (LL + FW) = LL + FW := IntWalk.i64_in _ (by omega)
        go_simp
        exact hK _ _ jE rfl (fun _ _ _ h => h)
      · refine stepL_plain rfl ?_
        rintro F a w1 jE - ⟨t5, -⟩ K hK
        have t5 : a.tmps[5]? = some (.pointer (some ⟨gu, 0, none⟩)) := t5
        go_simp
        exact hK _ _ jE rfl (fun _ _ _ h => h)
      · refine stepL_plain rfl ?_
        rintro F a w1 jE ⟨h4, t51, -⟩ - K hK
        have h4 : (F 4) = .pointer (some ⟨gu, 0, none⟩) := h4
        rw [h4] at t51
        clear h4
        have c := (jE.blk Bu (by simp)).cell
        go_simp
        exact hK _ _ jE rfl (fun _ _ _ h => h)
      · refine stepL_plain rfl ?_
        rintro F a w1 jE ⟨h3, t50, h5, t52, -⟩ - K hK
        have h3 : (F 3) = .int .i64 (LL + FW) := h3
        rw [h3] at t50
        clear h3
        have h5 : (F 5) = .int .i64 W := h5
        rw [h5] at t52
        clear h5
        have e1 : IntKind.i64.wrap (LL + FW + W) = LL + FW + W := IntWalk.i64_in _ (by omega)
        go_simp
        exact hK _ _ jE rfl (fun _ _ _ h => h)
      · refine stepL_plain rfl ?_
        rintro F a w1 jE - ⟨t5, -⟩ K hK
        have t5 : a.tmps[5]? = some (.pointer (some ⟨gu, 0, none⟩)) := t5
        go_simp
        exact hK _ _ jE rfl (fun _ _ _ h => h)
      · refine stepL_plain rfl ?_
        rintro F a w1 jE ⟨h7, t54, -⟩ - K hK
        have h7 : (F 7) = .pointer (some ⟨gu, 2, none⟩) := h7
        rw [h7] at t54
        clear h7
        have c := (jE.blk Bu (by simp)).cell
        go_simp
        exact hK _ _ jE rfl (fun _ _ _ h => h)
      · refine stepL_plain rfl ?_
        rintro F a w1 jE ⟨h6, t53, h8, t55, -⟩ - K hK
        have h6 : (F 6) = .int .i64 (LL + FW + W) := h6
        rw [h6] at t53
        clear h6
        have h8 : (F 8) = .int .i64 R := h8
        rw [h8] at t55
        clear h8
        have e1 : IntKind.i64.wrap (LL + FW + W + R) = LL + FW + W + R := IntWalk.i64_in _ (by omega)
        go_simp
        exact hK _ _ jE rfl (fun _ _ _ h => h)
      · refine stepL_plain rfl ?_
        rintro F a w1 jE - ⟨t1, -⟩ K hK
        have t1 : a.tmps[1]? = some (.int .i64 c) := t1
        go_simp
        exact hK _ _ jE rfl (fun _ _ _ h => h)
      · refine stepL_plain rfl ?_
        rintro F a w1 jE ⟨h9, t56, h10, t57, -⟩ - K hK
        have h9 : (F 9) = .int .i64 (LL + FW + W + R) := h9
        rw [h9] at t56
        clear h9
        have h10 : (F 10) = .int .i64 c := h10
        rw [h10] at t57
        clear h10
        have e1 := unhide HS
        go_simp
        exact hK _ _ jE rfl (fun _ _ _ h => h)
      · refine stepL_plain rfl ?_
        rintro F a w1 jE ⟨h11, t58, -⟩ - K hK
        have h11 : (F 11) = .bool false := h11
        rw [h11] at t58
        clear h11
        go_simp
        exact hK _ _ jE rfl (fun _ _ _ h => h)
      · refine stepL_of ?_
        rintro F a w1 jE ⟨h12, t59, -⟩ ⟨t5, -⟩ K hK
        have h12 : (F 12) = .bool false := h12
        rw [h12] at t59
        clear h12
        have t5 : a.tmps[5]? = some (.pointer (some ⟨gu, 0, none⟩)) := t5
        refine stepY ((wanted_of 12 false 59 _ rfl rfl t59).trans rfl) ?_
        go_simp
        exact hK _ _ jE rfl (fun _ _ _ h => h)
      · refine stepL_of ?_
        rintro F a w1 jE ⟨h13, t60, h12, t59, -⟩ - K hK
        have h13 : (F 13) = .pointer (some ⟨gu, 0, none⟩) := h13
        rw [h13] at t60
        clear h13
        have h12 : (F 12) = .bool false := h12
        rw [h12] at t59
        clear h12
        refine stepY ((wanted_of 12 false 59 _ rfl rfl t59).trans rfl) ?_
        have c := (jE.blk Bu (by simp)).cell
        go_simp
        exact hK _ _ jE rfl (fun _ _ _ h => h)
      · refine stepL_of ?_
        rintro F a w1 jE ⟨h14, t61, h12, t59, -⟩ - K hK
        have h14 : (F 14) = .int .i64 W := h14
        rw [h14] at t61
        clear h14
        have h12 : (F 12) = .bool false := h12
        rw [h12] at t59
        clear h12
        refine stepY ((wanted_of 12 false 59 _ rfl rfl t59).trans rfl) ?_
        have e1 : decide (W < 0) = false := by simp; omega
        go_simp
        exact hK _ _ jE rfl (fun _ _ _ h => h)
      · refine stepL_plain rfl ?_
        rintro F a w1 jE ⟨h12, t59, h15, t62, -⟩ - K hK
        have h12 : (F 12) = .bool false := h12
        rw [h12] at t59
        clear h12
        have h15 : (F 15) = .bool false := h15
        rw [h15] at t62
        clear h15
        go_simp
        exact hK _ _ jE rfl (fun _ _ _ h => h)
    · rintro F w5 jE ⟨h16, -⟩
      have h16 : (F 16) = .bool false := h16
      have hx := jE.ext (Ext.refl _) (by simp)
      replace E0 := E0.trans hx
      replace Bs := Bs.ext hx
      replace Bu := Bu.ext hx
      clear jE hx
      simp only [putL, Act.put, Nat.reduceAdd, Nat.zero_add, List.setIfInBounds_toArray, List.set_cons_succ, List.set_cons_zero]
      rw [h16]
      clear h16
      have dS := Bs.cell
      have lS := Bs.lt
      go_wp2_with fail
      with_reducible refine (unhide (cmi _)).mono ?_
      rintro e w6 ⟨rfl, hx⟩
      replace E0 := E0.trans hx
      replace Bs := Bs.ext hx
      replace Bu := Bu.ext hx
      clear hx dS lS
      have dS := Bs.cell
      have lS := Bs.lt
      go_wp2_with fail
      with_reducible refine (unhide (cma _)).mono ?_
      rintro e w7 ⟨rfl, hx⟩
      replace E0 := E0.trans hx
      replace Bs := Bs.ext hx
      replace Bu := Bu.ext hx
      clear hx dS lS
      go_upto_region 11 with fail
      refine wp_region_lin0 (fun w' => (ExtX w7 w' [])) (fun ii vv ww => match ii with | 0 => vv = .bool bi | 1 => vv = .bool bi | 2 => vv = (if (bi) = true then .pointer (some ⟨gu, 0, none⟩) else undef) | 3 => vv = (if (bi) = true then .int .i64 W else undef) | 4 => vv = (if (bi) = true then .int .i64 mi else undef) | 5 => vv = (if (bi) = true then .bool x1 else undef) | 6 => vv = .bool (bi && x1) | 7 => vv = .bool (bi && x1) | 8 => vv = (if (!(bi && x1)) = true then .bool bo else undef) | 9 => vv = (if (!(bi && x1)) = true then .bool bo else undef) | 10 => vv = (if ((!(bi && x1)) && bo) = true then .pointer (some ⟨gu, 0, none⟩) else undef) | 11 => vv = (if ((!(bi && x1)) && bo) = true then .int .i64 W else undef) | 12 => vv = (if ((!(bi && x1)) && bo) = true then .int .i64 ma else undef) | 13 => vv = (if ((!(bi && x1)) && bo) = true then .bool x2 else undef) | 14 => vv = (if (!(bi && x1)) = true then .bool (bo && x2) else undef) | 15 => vv = (if (!(bi && x1)) = true then .bool (bo && x2) else undef) | 16 => vv = (if ((!(bi && x1)) && (bo && x2)) = true then .bool bi else undef) | 17 => vv = (if ((!(bi && x1)) && (bo && x2)) = true then .bool bi else undef) | 18 => vv = (if (((!(bi && x1)) && (bo && x2)) && bi) = true then .pointer (some ⟨gu, 0, none⟩) else undef) | 19 => vv = (if (((!(bi && x1)) && (bo && x2)) && bi) = true then .int .i64 W else undef) | 20 => vv = (if (((!(bi && x1)) && (bo && x2)) && bi) = true then .int .i64 mi else undef) | 21 => vv = (if (((!(bi && x1)) && (bo && x2)) && bi) = true then .bool x3 else undef) | 22 => vv = (if ((!(bi && x1)) && (bo && x2)) = true then .bool (bi && x3) else undef) | 23 => vv = (if ((!(bi && x1)) && (bo && x2)) = true then .bool (!(bi && x3)) else undef) | 24 => vv = (if (!(bi && x1)) = true then .bool ((bo && x2) && !(bi && x3)) else undef) | 25 => vv = .bool false | _ => True) (fun ii => match ii with | 1 => [(0, 78)] | 2 => [(1, 79)] | 3 => [(2, 80), (1, 79)] | 4 => [(1, 79)] | 5 => [(3, 81), (4, 82), (1, 79)] | 6 => [(1, 79), (5, 83)] | 7 => [(6, 84)] | 8 => [(7, 85)] | 9 => [(8, 86), (7, 85)] | 10 => [(9, 87)] | 11 => [(10, 88), (9, 87)] | 12 => [(9, 87)] | 13 => [(11, 89), (12, 90), (9, 87)] | 14 => [(9, 87), (13, 91), (7, 85)] | 15 => [(14, 92), (7, 85)] | 16 => [(15, 93)] | 17 => [(16, 94), (15, 93)] | 18 => [(17, 95)] | 19 => [(18, 96), (17, 95)] | 20 => [(17, 95)] | 21 => [(19, 97), (20, 98), (17, 95)] | 22 => [(17, 95), (21, 99), (15, 93)] | 23 => [(22, 100), (15, 93)] | 24 => [(15, 93), (23, 101), (7, 85)] | 25 => [(7, 85), (24, 102)] | _ => []) (fun ii => match ii with | 0 => [9] | 2 => [5] | 4 => [8] | 8 => [11] | 10 => [5] | 12 => [10] | 16 => [9] | 18 => [5] | 20 => [8] | _ => []) (fun ii => match ii with | 2 => [1, 4] | 3 => [1, 4] | 4 => [1, 2, 3] | 5 => [1] | 8 => [7] | 9 => [7] | 10 => [9, 12, 7] | 11 => [9, 12, 7] | 12 => [9, 10, 11, 7] | 13 => [9, 7] | 14 => [7] | 15 => [7] | 16 => [15, 7] | 17 => [15, 7] | 18 => [17, 20, 15, 7] | 19 => [17, 20, 15, 7] | 20 => [17, 18, 19, 15, 7] | 21 => [17, 15, 7] | 22 => [15, 7] | 23 => [15, 7] | 24 => [7] | _ => []) [25] [0, 1, 3, 7, 3, 31, 63, 127, 255, 511, 1023, 2047, 1023, 8191, 16383, 32767, 65535, 131071, 262143, 524287, 262143, 2097151, 4194303, 8388607, 16777215, 33554431] 151 rfl (by kernel_rfl) (ExtX.refl _ _) ?_ ?_
      · rename_i hcont; clear hcont
        refine ⟨?_, ?_, ?_, ?_, ?_, ?_, ?_, ?_, ?_, ?_, ?_, ?_, ?_, ?_, ?_, ?_, ?_, ?_, ?_, ?_, ?_, ?_, ?_, ?_, ?_, ?_, trivial⟩
        · refine stepL_plain rfl ?_
          rintro F a w1 jE - ⟨t9, -⟩ K hK
          have t9 : a.tmps[9]? = some (.bool bi) := t9
          go_simp
          exact hK _ _ jE rfl (fun _ _ _ h => h)
        · refine stepL_plain rfl ?_
          rintro F a w1 jE ⟨h0, t78, -⟩ - K hK
          have h0 : (F 0) = .bool bi := h0
          rw [h0] at t78
          clear h0
          go_simp
          exact hK _ _ jE rfl (fun _ _ _ h => h)
        · refine stepL_of ?_
          rintro F a w1 jE ⟨h1, t79, -⟩ ⟨t5, -⟩ K hK
          have h1 : (F 1) = .bool bi := h1
          rw [h1] at t79
          clear h1
          have t5 : a.tmps[5]? = some (.pointer (some ⟨gu, 0, none⟩)) := t5
          cases bi
          all_goals first
            | (exact stepN ((wanted_of 1 true 79 _ rfl rfl t79).trans rfl) (hK undef _ jE rfl (fun _ _ _ h => h)))
            | (exact stepN (wanted_undef 1 true 79 rfl rfl t79) (hK undef _ jE rfl (fun _ _ _ h => h)))
            | (refine stepY ((wanted_of 1 true 79 _ rfl rfl t79).trans rfl) ?_
               go_simp
               exact hK _ _ jE rfl (fun _ _ _ h => h))
        · refine stepL_of ?_
          rintro F a w1 jE ⟨h2, t80, h1, t79, -⟩ - K hK
          have h2 : (F 2) = (if (bi) = true then .pointer (some ⟨gu, 0, none⟩) else undef) := h2
          rw [h2] at t80
          clear h2
          have h1 : (F 1) = .bool bi := h1
          rw [h1] at t79
          clear h1
          cases bi
          all_goals first
            | (exact stepN ((wanted_of 1 true 79 _ rfl rfl t79).trans rfl) (hK undef _ jE rfl (fun _ _ _ h => h)))
            | (exact stepN (wanted_undef 1 true 79 rfl rfl t79) (hK undef _ jE rfl (fun _ _ _ h => h)))
            | (refine stepY ((wanted_of 1 true 79 _ rfl rfl t79).trans rfl) ?_
               have c := (jE.blk Bu (by simp)).cell
               go_simp
               exact hK _ _ jE rfl (fun _ _ _ h => h))
        · refine stepL_of ?_
          rintro F a w1 jE ⟨h1, t79, -⟩ ⟨t8, -⟩ K hK
          have h1 : (F 1) = .bool bi := h1
          rw [h1] at t79
          clear h1
          have t8 : a.tmps[8]? = some (.int .i64 mi) := t8
          cases bi
          all_goals first
            | (exact stepN ((wanted_of 1 true 79 _ rfl rfl t79).trans rfl) (hK undef _ jE rfl (fun _ _ _ h => h)))
            | (exact stepN (wanted_undef 1 true 79 rfl rfl t79) (hK undef _ jE rfl (fun _ _ _ h => h)))
            | (refine stepY ((wanted_of 1 true 79 _ rfl rfl t79).trans rfl) ?_
               go_simp
               exact hK _ _ jE rfl (fun _ _ _ h => h))
        · refine stepL_of ?_
          rintro F a w1 jE ⟨h3, t81, h4, t82, h1, t79, -⟩ - K hK
          have h3 : (F 3) = (if (bi) = true then .int .i64 W else undef) := h3
          rw [h3] at t81
          clear h3
          have h4 : (F 4) = (if (bi) = true then .int .i64 mi else undef) := h4
          rw [h4] at t82
          clear h4
          have h1 : (F 1) = .bool bi := h1
          rw [h1] at t79
          clear h1
          cases bi
          all_goals first
            | (exact stepN ((wanted_of 1 true 79 _ rfl rfl t79).trans rfl) (hK undef _ jE rfl (fun _ _ _ h => h)))
            | (exact stepN (wanted_undef 1 true 79 rfl rfl t79) (hK undef _ jE rfl (fun _ _ _ h => h)))
            | (refine stepY ((wanted_of 1 true 79 _ rfl rfl t79).trans rfl) ?_
               have e1 := unhide Hhx1
               go_simp
               exact hK _ _ jE rfl (fun _ _ _ h => h))
        · refine stepL_plain rfl ?_
          rintro F a w1 jE ⟨h1, t79, h5, t83, -⟩ - K hK
          have h1 : (F 1) = .bool bi := h1
          rw [h1] at t79
          clear h1
          have h5 : (F 5) = (if (bi) = true then .bool x1 else undef) := h5
          rw [h5] at t83
          clear h5
          cases bi <;> cases x1
          all_goals
            go_simp
            exact hK _ _ jE rfl (fun _ _ _ h => h)
        · refine stepL_plain rfl ?_
          rintro F a w1 jE ⟨h6, t84, -⟩ - K hK
          have h6 : (F 6) = .bool (bi && x1) := h6
          rw [h6] at t84
          clear h6
          go_simp
          exact hK _ _ jE rfl (fun _ _ _ h => h)
        · refine stepL_of ?_
          rintro F a w1 jE ⟨h7, t85, -⟩ ⟨t11, -⟩ K hK
          have h7 : (F 7) = .bool (bi && x1) := h7
          rw [h7] at t85
          clear h7
          have t11 : a.tmps[11]? = some (.bool bo) := t11
          cases bi <;> cases x1
          all_goals first
            | (exact stepN ((wanted_of 7 false 85 _ rfl rfl t85).trans rfl) (hK undef _ jE rfl (fun _ _ _ h => h)))
            | (exact stepN (wanted_undef 7 false 85 rfl rfl t85) (hK undef _ jE rfl (fun _ _ _ h => h)))
            | (refine stepY ((wanted_of 7 false 85 _ rfl rfl t85).trans rfl) ?_
               go_simp
               exact hK _ _ jE rfl (fun _ _ _ h => h))
        · refine stepL_of ?_
          rintro F a w1 jE ⟨h8, t86, h7, t85, -⟩ - K hK
          have h8 : (F 8) = (if (!(bi && x1)) = true then .bool bo else undef) := h8
          rw [h8] at t86
          clear h8
          have h7 : (F 7) = .bool (bi && x1) := h7
          rw [h7] at t85
          clear h7
          cases bi <;> cases x1
          all_goals first
            | (exact stepN ((wanted_of 7 false 85 _ rfl rfl t85).trans rfl) (hK undef _ jE rfl (fun _ _ _ h => h)))
            | (exact stepN (wanted_undef 7 false 85 rfl rfl t85) (hK undef _ jE rfl (fun _ _ _ h => h)))
            | (refine stepY ((wanted_of 7 false 85 _ rfl rfl t85).trans rfl) ?_
               go_simp
               exact hK _ _ jE rfl (fun _ _ _ h => h))
        · refine stepL_of ?_
          rintro F a w1 jE ⟨h9, t87, -⟩ ⟨t5, -⟩ K hK
          have h9 : (F 9) = (if (!(bi && x1)) = true then .bool bo else undef) := h9
          rw [h9] at t87
          clear h9
          have t5 : a.tmps[5]? = some (.pointer (some ⟨gu, 0, none⟩)) := t5
          cases bi <;> cases bo <;> cases x1
          all_goals first
            | (exact stepN ((wanted_of 9 true 87 _ rfl rfl t87).trans rfl) (hK undef _ jE rfl (fun _ _ _ h => h)))
            | (exact stepN (wanted_undef 9 true 87 rfl rfl t87) (hK undef _ jE rfl (fun _ _ _ h => h)))
            | (refine stepY ((wanted_of 9 true 87 _ rfl rfl t87).trans rfl) ?_
               go_simp
               exact hK _ _ jE rfl (fun _ _ _ h => h))
        · refine stepL_of ?_
          rintro F a w1 jE ⟨h10, t88, h9, t87, -⟩ - K hK
          have h10 : (F 10) = (if ((!(bi && x1)) && bo) = true then .pointer (some ⟨gu, 0, none⟩) else undef) := h10
          rw [h10] at t88
          clear h10
          have h9 : (F 9) = (if (!(bi && x1)) = true then .bool bo else undef) := h9
          rw [h9] at t87
          clear h9
          cases bi <;> cases bo <;> cases x1
          all_goals first
            | (exact stepN ((wanted_of 9 true 87 _ rfl rfl t87).trans rfl) (hK undef _ jE rfl (fun _ _ _ h => h)))
            | (exact stepN (wanted_undef 9 true 87 rfl rfl t87) (hK undef _ jE rfl (fun _ _ _ h => h)))
            | (refine stepY ((wanted_of 9 true 87 _ rfl rfl t87).trans rfl) ?_
               have c := (jE.blk Bu (by simp)).cell
               go_simp
               exact hK _ _ jE rfl (fun _ _ _ h => h))
        · refine stepL_of ?_
          rintro F a w1 jE ⟨h9, t87, -⟩ ⟨t10, -⟩ K hK
          have h9 : (F 9) = (if (!(bi && x1)) = true then .bool bo else undef) := h9
          rw [h9] at t87
          clear h9
          have t10 : a.tmps[10]? = some (.int .i64 ma) := t10
          cases bi <;> cases bo <;> cases x1
          all_goals first
            | (exact stepN ((wanted_of 9 true 87 _ rfl rfl t87).trans rfl) (hK undef _ jE rfl (fun _ _ _ h => h)))
            | (exact stepN (wanted_undef 9 true 87 rfl rfl t87) (hK undef _ jE rfl (fun _ _ _ h => h)))
            | (refine stepY ((wanted_of 9 true 87 _ rfl rfl t87).trans rfl) ?_
               go_simp
               exact hK _ _ jE rfl (fun _ _ _ h => h))
        · refine stepL_of ?_
          rintro F a w1 jE ⟨h11, t89, h12, t90, h9, t87, -⟩ - K hK
          have h11 : (F 11) = (if ((!(bi && x1)) && bo) = true then .int .i64 W else undef) := h11
          rw [h11] at t89
          clear h11
          have h12 : (F 12) = (if ((!(bi && x1)) && bo) = true then .int .i64 ma else undef) := h12
          rw [h12] at t90
          clear h12
          have h9 : (F 9) = (if (!(bi && x1)) = true then .bool bo else undef) := h9
          rw [h9] at t87
          clear h9
          cases bi <;> cases bo <;> cases x1
          all_goals first
            | (exact stepN ((wanted_of 9 true 87 _ rfl rfl t87).trans rfl) (hK undef _ jE rfl (fun _ _ _ h => h)))
            | (exact stepN (wanted_undef 9 true 87 rfl rfl t87) (hK undef _ jE rfl (fun _ _ _ h => h)))
            | (refine stepY ((wanted_of 9 true 87 _ rfl rfl t87).trans rfl) ?_
               have e1 := unhide Hhx2
               go_simp
               exact hK _ _ jE rfl (fun _ _ _ h => h))
        · refine stepL_of ?_
          rintro F a w1 jE ⟨h9, t87, h13, t91, h7, t85, -⟩ - K hK
          have h9 : (F 9) = (if (!(bi && x1)) = true then .bool bo else undef) := h9
          rw [h9] at t87
          clear h9
          have h13 : (F 13) = (if ((!(bi && x1)) && bo) = true then .bool x2 else undef) := h13
          rw [h13] at t91
          clear h13
          have h7 : (F 7) = .bool (bi && x1) := h7
          rw [h7] at t85
          clear h7
          cases bi <;> cases x1 <;> cases bo <;> cases x2
          all_goals first
            | (exact stepN ((wanted_of 7 false 85 _ rfl rfl t85).trans rfl) (hK undef _ jE rfl (fun _ _ _ h => h)))
            | (exact stepN (wanted_undef 7 false 85 rfl rfl t85) (hK undef _ jE rfl (fun _ _ _ h => h)))
            | (refine stepY ((wanted_of 7 false 85 _ rfl rfl t85).trans rfl) ?_
               go_simp
               exact hK _ _ jE rfl (fun _ _ _ h => h))
        · refine stepL_of ?_
          rintro F a w1 jE ⟨h14, t92, h7, t85, -⟩ - K hK
          have h14 : (F 14) = (if (!(bi && x1)) = true then .bool (bo && x2) else undef) := h14
          rw [h14] at t92
          clear h14
          have h7 : (F 7) = .bool (bi && x1) := h7
          rw [h7] at t85
          clear h7
          cases bi <;> cases x1
          all_goals first
            | (exact stepN ((wanted_of 7 false 85 _ rfl rfl t85).trans rfl) (hK undef _ jE rfl (fun _ _ _ h => h)))
            | (exact stepN (wanted_undef 7 false 85 rfl rfl t85) (hK undef _ jE rfl (fun _ _ _ h => h)))
            | (refine stepY ((wanted_of 7 false 85 _ rfl rfl t85).trans rfl) ?_
               go_simp
               exact hK _ _ jE rfl (fun _ _ _ h => h))
        · refine stepL_of ?_
          rintro F a w1 jE ⟨h15, t93, -⟩ ⟨t9, -⟩ K hK
          have h15 : (F 15) = (if (!(bi && x1)) = true then .bool (bo && x2) else undef) := h15
          rw [h15] at t93
          clear h15
          have t9 : a.tmps[9]? = some (.bool bi) := t9
          cases bi <;> cases bo <;> cases x1 <;> cases x2
          all_goals first
            | (exact stepN ((wanted_of 15 true 93 _ rfl rfl t93).trans rfl) (hK undef _ jE rfl (fun _ _ _ h => h)))
            | (exact stepN (wanted_undef 15 true 93 rfl rfl t93) (hK undef _ jE rfl (fun _ _ _ h => h)))
            | (refine stepY ((wanted_of 15 true 93 _ rfl rfl t93).trans rfl) ?_
               go_simp
               exact hK _ _ jE rfl (fun _ _ _ h => h))
        · refine stepL_of ?_
          rintro F a w1 jE ⟨h16, t94, h15, t93, -⟩ - K hK
          have h16 : (F 16) = (if ((!(bi && x1)) && (bo && x2)) = true then .bool bi else undef) := h16
          rw [h16] at t94
          clear h16
          have h15 : (F 15) = (if (!(bi && x1)) = true then .bool (bo && x2) else undef) := h15
          rw [h15] at t93
          clear h15
          cases bi <;> cases bo <;> cases x1 <;> cases x2
          all_goals first
            | (exact stepN ((wanted_of 15 true 93 _ rfl rfl t93).trans rfl) (hK undef _ jE rfl (fun _ _ _ h => h)))
            | (exact stepN (wanted_undef 15 true 93 rfl rfl t93) (hK undef _ jE rfl (fun _ _ _ h => h)))
            | (refine stepY ((wanted_of 15 true 93 _ rfl rfl t93).trans rfl) ?_
               go_simp
               exact hK _ _ jE rfl (fun _ _ _ h => h))
        · refine stepL_of ?_
          rintro F a w1 jE ⟨h17, t95, -⟩ ⟨t5, -⟩ K hK
          have h17 : (F 17) = (if ((!(bi && x1)) && (bo && x2)) = true then .bool bi else undef) := h17
          rw [h17] at t95
          clear h17
          have t5 : a.tmps[5]? = some (.pointer (some ⟨gu, 0, none⟩)) := t5
          cases bi <;> cases bo <;> cases x1 <;> cases x2
          all_goals first
            | (exact stepN ((wanted_of 17 true 95 _ rfl rfl t95).trans rfl) (hK undef _ jE rfl (fun _ _ _ h => h)))
            | (exact stepN (wanted_undef 17 true 95 rfl rfl t95) (hK undef _ jE rfl (fun _ _ _ h => h)))
            | (refine stepY ((wanted_of 17 true 95 _ rfl rfl t95).trans rfl) ?_
               go_simp
               exact hK _ _ jE rfl (fun _ _ _ h => h))
        · refine stepL_of ?_
          rintro F a w1 jE ⟨h18, t96, h17, t95, -⟩ - K hK
          have h18 : (F 18) = (if (((!(bi && x1)) && (bo && x2)) && bi) = true then .pointer (some ⟨gu, 0, none⟩) else undef) := h18
          rw [h18] at t96
          clear h18
          have h17 : (F 17) = (if ((!(bi && x1)) && (bo && x2)) = true then .bool bi else undef) := h17
          rw [h17] at t95
          clear h17
          cases bi <;> cases bo <;> cases x1 <;> cases x2
          all_goals first
            | (exact stepN ((wanted_of 17 true 95 _ rfl rfl t95).trans rfl) (hK undef _ jE rfl (fun _ _ _ h => h)))
            | (exact stepN (wanted_undef 17 true 95 rfl rfl t95) (hK undef _ jE rfl (fun _ _ _ h => h)))
            | (refine stepY ((wanted_of 17 true 95 _ rfl rfl t95).trans rfl) ?_
               have c := (jE.blk Bu (by simp)).cell
               go_simp
               exact hK _ _ jE rfl (fun _ _ _ h => h))
        · refine stepL_of ?_
          rintro F a w1 jE ⟨h17, t95, -⟩ ⟨t8, -⟩ K hK
          have h17 : (F 17) = (if ((!(bi && x1)) && (bo && x2)) = true then .bool bi else undef) := h17
          rw [h17] at t95
          clear h17
          have t8 : a.tmps[8]? = some (.int .i64 mi) := t8
          cases bi <;> cases bo <;> cases x1 <;> cases x2
          all_goals first
            | (exact stepN ((wanted_of 17 true 95 _ rfl rfl t95).trans rfl) (hK undef _ jE rfl (fun _ _ _ h => h)))
            | (exact stepN (wanted_undef 17 true 95 rfl rfl t95) (hK undef _ jE rfl (fun _ _ _ h => h)))
            | (refine stepY ((wanted_of 17 true 95 _ rfl rfl t95).trans rfl) ?_
               go_simp
               exact hK _ _ jE rfl (fun _ _ _ h => h))
        · refine stepL_of ?_
          rintro F a w1 jE ⟨h19, t97, h20, t98, h17, t95, -⟩ - K hK
          have h19 : (F 19) = (if (((!(bi && x1)) && (bo && x2)) && bi) = true then .int .i64 W else undef) := h19
          rw [h19] at t97
          clear h19
          have h20 : (F 20) = (if (((!(bi && x1)) && (bo && x2)) && bi) = true then .int .i64 mi else undef) := h20
          rw [h20] at t98
          clear h20
          have h17 : (F 17) = (if ((!(bi && x1)) && (bo && x2)) = true then .bool bi else undef) := h17
          rw [h17] at t95
          clear h17
          cases bi <;> cases bo <;> cases x1 <;> cases x2
          all_goals first
            | (exact stepN ((wanted_of 17 true 95 _ rfl rfl t95).trans rfl) (hK undef _ jE rfl (fun _ _ _ h => h)))
            | (exact stepN (wanted_undef 17 true 95 rfl rfl t95) (hK undef _ jE rfl (fun _ _ _ h => h)))
            | (refine stepY ((wanted_of 17 true 95 _ rfl rfl t95).trans rfl) ?_
               have e1 := unhide Hhx3
               go_simp
               exact hK _ _ jE rfl (fun _ _ _ h => h))
        · refine stepL_of ?_
          rintro F a w1 jE ⟨h17, t95, h21, t99, h15, t93, -⟩ - K hK
          have h17 : (F 17) = (if ((!(bi && x1)) && (bo && x2)) = true then .bool bi else undef) := h17
          rw [h17] at t95
          clear h17
          have h21 : (F 21) = (if (((!(bi && x1)) && (bo && x2)) && bi) = true then .bool x3 else undef) := h21
          rw [h21] at t99
          clear h21
          have h15 : (F 15) = (if (!(bi && x1)) = true then .bool (bo && x2) else undef) := h15
          rw [h15] at t93
          clear h15
          cases bi <;> cases x1 <;> cases bo <;> cases x2 <;> cases x3
          all_goals first
            | (exact stepN ((wanted_of 15 true 93 _ rfl rfl t93).trans rfl) (hK undef _ jE rfl (fun _ _ _ h => h)))
            | (exact stepN (wanted_undef 15 true 93 rfl rfl t93) (hK undef _ jE rfl (fun _ _ _ h => h)))
            | (refine stepY ((wanted_of 15 true 93 _ rfl rfl t93).trans rfl) ?_
               go_simp
               exact hK _ _ jE rfl (fun _ _ _ h => h))
        · refine stepL_of ?_
          rintro F a w1 jE ⟨h22, t100, h15, t93, -⟩ - K hK
          have h22 : (F 22) = (if ((!(bi && x1)) && (bo && x2)) = true then .bool (bi && x3) else undef) := h22
          rw [h22] at t100
          clear h22
          have h15 : (F 15) = (if (!(bi && x1)) = true then .bool (bo && x2) else undef) := h15
          rw [h15] at t93
          clear h15
          cases bi <;> cases x1 <;> cases bo <;> cases x2 <;> cases x3
          all_goals first
            | (exact stepN ((wanted_of 15 true 93 _ rfl rfl t93).trans rfl) (hK undef _ jE rfl (fun _ _ _ h => h)))
            | (exact stepN (wanted_undef 15 true 93 rfl rfl t93) (hK undef _ jE rfl (fun _ _ _ h => h)))
            | (refine stepY ((wanted_of 15 true 93 _ rfl rfl t93).trans rfl) ?_
               go_simp
               exact hK _ _ jE rfl (fun _ _ _ h => h))
        · refine stepL_of ?_
          rintro F a w1 jE ⟨h15, t93, h23, t101, h7, t85, -⟩ - K hK
          have h15 : (F 15) = (if (!(bi && x1)) = true then .bool (bo && x2) else undef) := h15
          rw [h15] at t93
          clear h15
          have h23 : (F 23) = (if ((!(bi && x1)) && (bo && x2)) = true then .bool (!(bi && x3)) else undef) := h23
          rw [h23] at t101
          clear h23
          have h7 : (F 7) = .bool (bi && x1) := h7
          rw [h7] at t85
          clear h7
          cases bi <;> cases x1 <;> cases bo <;> cases x2 <;> cases x3
          all_goals first
            | (exact stepN ((wanted_of 7 false 85 _ rfl rfl t85).trans rfl) (hK undef _ jE rfl (fun _ _ _ h => h)))
            | (exact stepN (wanted_undef 7 false 85 rfl rfl t85) (hK undef _ jE rfl (fun _ _ _ h => h)))
            | (refine stepY ((wanted_of 7 false 85 _ rfl rfl t85).trans rfl) ?_
               go_simp
               exact hK _ _ jE rfl (fun _ _ _ h => h))
        · refine stepL_plain rfl ?_
          rintro F a w1 jE ⟨h7, t85, h24, t102, -⟩ - K hK
          have h7 : (F 7) = .bool (bi && x1) := h7
          rw [h7] at t85
          clear h7
          have h24 : (F 24) = (if (!(bi && x1)) = true then .bool ((bo && x2) && !(bi && x3)) else undef) := h24
          rw [h24] at t102
          clear h24
          cases bi <;> cases x1 <;> cases bo <;> cases x2 <;> cases x3
          all_goals
            first | (exact absurd (unhide HT1) (by decide)) | (go_simp; exact hK _ _ jE rfl (fun _ _ _ h => h))
      · rintro F w8 jE ⟨h25, -⟩
        have h25 : (F 25) = .bool false := h25
        have hx := jE.ext (Ext.refl _) (by simp)
        replace E0 := E0.trans hx
        replace Bs := Bs.ext hx
        replace Bu := Bu.ext hx
        clear jE hx
        simp only [putL, Act.put, Nat.reduceAdd, Nat.zero_add, List.setIfInBounds_toArray, List.set_cons_succ, List.set_cons_zero]
        rw [h25]
        clear h25
        go_upto_region 13 with fail
        refine wp_region_lin0 (fun w' => (ExtX w8 w' [])) (fun ii vv ww => match ii with | 0 => vv = .pointer (some ⟨g, 16, none⟩) | 1 => vv = .pointer (some ⟨g, 22, none⟩) | 2 => vv = .pointer (some ⟨g, 22, none⟩) | 3 => vv = .int .u8 s.m3.k | 4 => vv = .bool k0 | 5 => vv = .bool k0 | 6 => vv = (if (k0) = true then .pointer (some ⟨gu, 1, none⟩) else undef) | 7 => vv = (if (k0) = true then .int .i64 LL else undef) | 8 => vv = (if (k0) = true then .bool y0 else undef) | 9 => vv = .bool false | _ => True) (fun ii => match ii with | 1 => [(0, 104)] | 2 => [(1, 105)] | 3 => [(2, 106)] | 4 => [(3, 107)] | 5 => [(4, 108)] | 6 => [(5, 109)] | 7 => [(6, 110), (5, 109)] | 8 => [(7, 111), (5, 109)] | 9 => [(5, 109), (8, 112)] | _ => []) (fun ii => match ii with | 0 => [2] | 6 => [5] | _ => []) (fun ii => match ii with | 6 => [5] | 7 => [5] | 8 => [5] | _ => []) [9] [0, 1, 3, 7, 15, 31, 63, 127, 255, 511] 151 rfl (by kernel_rfl) (ExtX.refl _ _) ?_ ?_
        · rename_i hcont; clear hcont
          refine ⟨?_, ?_, ?_, ?_, ?_, ?_, ?_, ?_, ?_, ?_, trivial⟩
          · refine stepL_plain rfl ?_
            rintro F a w1 jE - ⟨t2, -⟩ K hK
            have t2 : a.tmps[2]? = some (.pointer (some ⟨g, 0, none⟩)) := t2
            go_simp
            exact hK _ _ jE rfl (fun _ _ _ h => h)
          · refine stepL_plain rfl ?_
            rintro F a w1 jE ⟨h0, t104, -⟩ - K hK
            have h0 : (F 0) = .pointer (some ⟨g, 16, none⟩) := h0
            rw [h0] at t104
            clear h0
            go_simp
            exact hK _ _ jE rfl (fun _ _ _ h => h)
          · refine stepL_plain rfl ?_
            rintro F a w1 jE ⟨h1, t105, -⟩ - K hK
            have h1 : (F 1) = .pointer (some ⟨g, 22, none⟩) := h1
            rw [h1] at t105
            clear h1
            go_simp
            exact hK _ _ jE rfl (fun _ _ _ h => h)
          · refine stepL_plain rfl ?_
            rintro F a w1 jE ⟨h2, t106, -⟩ - K hK
            have h2 : (F 2) = .pointer (some ⟨g, 22, none⟩) := h2
            rw [h2] at t106
            clear h2
            have c := (jE.blk Bs (by simp)).cell
            go_simp
            exact hK _ _ jE rfl (fun _ _ _ h => h)
          · refine stepL_plain rfl ?_
            rintro F a w1 jE ⟨h3, t107, -⟩ - K hK
            have h3 : (F 3) = .int .u8 s.m3.k := h3
            rw [h3] at t107
            clear h3
            have e1 := unhide Hhk0
            go_simp
            exact hK _ _ jE rfl (fun _ _ _ h => h)
          · refine stepL_plain rfl ?_
            rintro F a w1 jE ⟨h4, t108, -⟩ - K hK
            have h4 : (F 4) = .bool k0 := h4
            rw [h4] at t108
            clear h4
            go_simp
            exact hK _ _ jE rfl (fun _ _ _ h => h)
          · refine stepL_of ?_
            rintro F a w1 jE ⟨h5, t109, -⟩ ⟨t5, -⟩ K hK
            have h5 : (F 5) = .bool k0 := h5
            rw [h5] at t109
            clear h5
            have t5 : a.tmps[5]? = some (.pointer (some ⟨gu, 0, none⟩)) := t5
            cases k0
            all_goals first
              | (exact stepN ((wanted_of 5 true 109 _ rfl rfl t109).trans rfl) (hK undef _ jE rfl (fun _ _ _ h => h)))
              | (exact stepN (wanted_undef 5 true 109 rfl rfl t109) (hK undef _ jE rfl (fun _ _ _ h => h)))
              | (refine stepY ((wanted_of 5 true 109 _ rfl rfl t109).trans rfl) ?_
                 go_simp
                 exact hK _ _ jE rfl (fun _ _ _ h => h))
          · refine stepL_of ?_
            rintro F a w1 jE ⟨h6, t110, h5, t109, -⟩ - K hK
            have h6 : (F 6) = (if (k0) = true then .pointer (some ⟨gu, 1, none⟩) else undef) := h6
            rw [h6] at t110
            clear h6
            have h5 : (F 5) = .bool k0 := h5
            rw [h5] at t109
            clear h5
            cases k0
            all_goals first
              | (exact stepN ((wanted_of 5 true 109 _ rfl rfl t109).trans rfl) (hK undef _ jE rfl (fun _ _ _ h => h)))
              | (exact stepN (wanted_undef 5 true 109 rfl rfl t109) (hK undef _ jE rfl (fun _ _ _ h => h)))
              | (refine stepY ((wanted_of 5 true 109 _ rfl rfl t109).trans rfl) ?_
                 have c := (jE.blk Bu (by simp)).cell
                 go_simp
                 exact hK _ _ jE rfl (fun _ _ _ h => h))
          · refine stepL_of ?_
            rintro F a w1 jE ⟨h7, t111, h5, t109, -⟩ - K hK
            have h7 : (F 7) = (if (k0) = true then .int .i64 LL else undef) := h7
            rw [h7] at t111
            clear h7
            have h5 : (F 5) = .bool k0 := h5
            rw [h5] at t109
            clear h5
            cases k0
            all_goals first
              | (exact stepN ((wanted_of 5 true 109 _ rfl rfl t109).trans rfl) (hK undef _ jE rfl (fun _ _ _ h => h)))
              | (exact stepN (wanted_undef 5 true 109 rfl rfl t109) (hK undef _ jE rfl (fun _ _ _ h => h)))
              | (refine stepY ((wanted_of 5 true 109 _ rfl rfl t109).trans rfl) ?_
                 have e1 := unhide Hhy0
                 go_simp
                 exact hK _ _ jE rfl (fun _ _ _ h => h))
          · refine stepL_plain rfl ?_
            rintro F a w1 jE ⟨h5, t109, h8, t112, -⟩ - K hK
            have h5 : (F 5) = .bool k0 := h5
            rw [h5] at t109
            clear h5
            have h8 : (F 8) = (if (k0) = true then .bool y0 else undef) := h8
            rw [h8] at t112
            clear h8
            cases k0 <;> cases y0
            all_goals
              first | (exact absurd (unhide HT2) (by decide)) | (go_simp; exact hK _ _ jE rfl (fun _ _ _ h => h))
        · rintro F w9 jE ⟨h9, -⟩
          have h9 : (F 9) = .bool false := h9
          have hx := jE.ext (Ext.refl _) (by simp)
          replace E0 := E0.trans hx
          replace Bs := Bs.ext hx
          replace Bu := Bu.ext hx
          clear jE hx
          simp only [putL, Act.put, Nat.reduceAdd, Nat.zero_add, List.setIfInBounds_toArray, List.set_cons_succ, List.set_cons_zero]
          rw [h9]
          clear h9
          go_upto_region 15 with fail
          refine wp_region_lin0 (fun w' => (ExtX w9 w' [])) (fun ii vv ww => match ii with | 0 => vv = .pointer (some ⟨g, 4, none⟩) | 1 => vv = .pointer (some ⟨g, 4, none⟩) | 2 => vv = .int .u8 s.w.k | 3 => vv = .bool k1 | 4 => vv = .bool k1 | 5 => vv = (if (k1) = true then .bool bi else undef) | 6 => vv = (if (k1) = true then .bool (!bi) else undef) | 7 => vv = .bool (k1 && !bi) | 8 => vv = .bool (k1 && !bi) | 9 => vv = (if ((k1 && !bi)) = true then .bool bo else undef) | 10 => vv = (if ((k1 && !bi)) = true then .bool (!bo) else undef) | 11 => vv = .bool ((k1 && !bi) && !bo) | 12 => vv = .bool ((k1 && !bi) && !bo) | 13 => vv = (if (((k1 && !bi) && !bo)) = true then .pointer (some ⟨gu, 0, none⟩) else undef) | 14 => vv = (if (((k1 && !bi) && !bo)) = true then .int .i64 W else undef) | 15 => vv = (if (((k1 && !bi) && !bo)) = true then .pointer (some ⟨g, 4, none⟩) else undef) | 16 => vv = (if (((k1 && !bi) && !bo)) = true then .pointer (some ⟨g, 5, none⟩) else undef) | 17 => vv = (if (((k1 && !bi) && !bo)) = true then .int .i64 s.w.n else undef) | 18 => vv = (if (((k1 && !bi) && !bo)) = true then .bool (!y1) else undef) | 19 => vv = .bool false | _ => True) (fun ii => match ii with | 1 => [(0, 114)] | 2 => [(1, 115)] | 3 => [(2, 116)] | 4 => [(3, 117)] | 5 => [(4, 118)] | 6 => [(5, 119), (4, 118)] | 7 => [(4, 118), (6, 120)] | 8 => [(7, 121)] | 9 => [(8, 122)] | 10 => [(9, 123), (8, 122)] | 11 => [(8, 122), (10, 124)] | 12 => [(11, 125)] | 13 => [(12, 126)] | 14 => [(13, 127), (12, 126)] | 15 => [(12, 126)] | 16 => [(15, 129), (12, 126)] | 17 => [(16, 130), (12, 126)] | 18 => [(14, 128), (17, 131), (12, 126)] | 19 => [(12, 126), (18, 132)] | _ => []) (fun ii => match ii with | 0 => [2] | 5 => [9] | 9 => [11] | 13 => [5] | 15 => [2] | _ => []) (fun ii => match ii with | 5 => [4] | 6 => [4] | 9 => [8] | 10 => [8] | 13 => [12, 15, 16, 17] | 14 => [12, 15, 16, 17] | 15 => [12, 13, 14] | 16 => [12, 13, 14] | 17 => [12, 13, 14] | 18 => [12] | _ => []) [19] [0, 1, 3, 7, 15, 31, 63, 127, 255, 511, 1023, 2047, 4095, 8191, 16383, 8191, 40959, 106495, 262143, 524287] 151 rfl (by kernel_rfl) (ExtX.refl _ _) ?_ ?_
          · rename_i hcont; clear hcont
            refine ⟨?_, ?_, ?_, ?_, ?_, ?_, ?_, ?_, ?_, ?_, ?_, ?_, ?_, ?_, ?_, ?_, ?_, ?_, ?_, ?_, trivial⟩
            · refine stepL_plain rfl ?_
              rintro F a w1 jE - ⟨t2, -⟩ K hK
              have t2 : a.tmps[2]? = some (.pointer (some ⟨g, 0, none⟩)) := t2
              go_simp
              exact hK _ _ jE rfl (fun _ _ _ h => h)
            · refine stepL_plain rfl ?_
              rintro F a w1 jE ⟨h0, t114, -⟩ - K hK
              have h0 : (F 0) = .pointer (some ⟨g, 4, none⟩) := h0
              rw [h0] at t114
              clear h0
              go_simp
              exact hK _ _ jE rfl (fun _ _ _ h => h)
            · refine stepL_plain rfl ?_
              rintro F a w1 jE ⟨h1, t115, -⟩ - K hK
              have h1 : (F 1) = .pointer (some ⟨g, 4, none⟩) := h1
              rw [h1] at t115
              clear h1
              have c := (jE.blk Bs (by simp)).cell
              go_simp
              exact hK _ _ jE rfl (fun _ _ _ h => h)
            · refine stepL_plain rfl ?_
              rintro F a w1 jE ⟨h2, t116, -⟩ - K hK
              have h2 : (F 2) = .int .u8 s.w.k := h2
              rw [h2] at t116
              clear h2
              have e1 := unhide Hhk1
              go_simp
              exact hK _ _ jE rfl (fun _ _ _ h => h)
            · refine stepL_plain rfl ?_
              rintro F a w1 jE ⟨h3, t117, -⟩ - K hK
              have h3 : (F 3) = .bool k1 := h3
              rw [h3] at t117
              clear h3
              go_simp
              exact hK _ _ jE rfl (fun _ _ _ h => h)
            · refine stepL_of ?_
              rintro F a w1 jE ⟨h4, t118, -⟩ ⟨t9, -⟩ K hK
              have h4 : (F 4) = .bool k1 := h4
              rw [h4] at t118
              clear h4
              have t9 : a.tmps[9]? = some (.bool bi) := t9
              cases k1
              all_goals first
                | (exact stepN ((wanted_of 4 true 118 _ rfl rfl t118).trans rfl) (hK undef _ jE rfl (fun _ _ _ h => h)))
                | (exact stepN (wanted_undef 4 true 118 rfl rfl t118) (hK undef _ jE rfl (fun _ _ _ h => h)))
                | (refine stepY ((wanted_of 4 true 118 _ rfl rfl t118).trans rfl) ?_
                   go_simp
                   exact hK _ _ jE rfl (fun _ _ _ h => h))
            · refine stepL_of ?_
              rintro F a w1 jE ⟨h5, t119, h4, t118, -⟩ - K hK
              have h5 : (F 5) = (if (k1) = true then .bool bi else undef) := h5
              rw [h5] at t119
              clear h5
              have h4 : (F 4) = .bool k1 := h4
              rw [h4] at t118
              clear h4
              cases k1
              all_goals first
                | (exact stepN ((wanted_of 4 true 118 _ rfl rfl t118).trans rfl) (hK undef _ jE rfl (fun _ _ _ h => h)))
                | (exact stepN (wanted_undef 4 true 118 rfl rfl t118) (hK undef _ jE rfl (fun _ _ _ h => h)))
                | (refine stepY ((wanted_of 4 true 118 _ rfl rfl t118).trans rfl) ?_
                   go_simp
                   exact hK _ _ jE rfl (fun _ _ _ h => h))
            · refine stepL_plain rfl ?_
              rintro F a w1 jE ⟨h4, t118, h6, t120, -⟩ - K hK
              have h4 : (F 4) = .bool k1 := h4
              rw [h4] at t118
              clear h4
              have h6 : (F 6) = (if (k1) = true then .bool (!bi) else undef) := h6
              rw [h6] at t120
              clear h6
              cases k1 <;> cases bi
              all_goals
                go_simp
                exact hK _ _ jE rfl (fun _ _ _ h => h)
            · refine stepL_plain rfl ?_
              rintro F a w1 jE ⟨h7, t121, -⟩ - K hK
              have h7 : (F 7) = .bool (k1 && !bi) := h7
              rw [h7] at t121
              clear h7
              go_simp
              exact hK _ _ jE rfl (fun _ _ _ h => h)
            · refine stepL_of ?_
              rintro F a w1 jE ⟨h8, t122, -⟩ ⟨t11, -⟩ K hK
              have h8 : (F 8) = .bool (k1 && !bi) := h8
              rw [h8] at t122
              clear h8
              have t11 : a.tmps[11]? = some (.bool bo) := t11
              cases bi <;> cases k1
              all_goals first
                | (exact stepN ((wanted_of 8 true 122 _ rfl rfl t122).trans rfl) (hK undef _ jE rfl (fun _ _ _ h => h)))
                | (exact stepN (wanted_undef 8 true 122 rfl rfl t122) (hK undef _ jE rfl (fun _ _ _ h => h)))
                | (refine stepY ((wanted_of 8 true 122 _ rfl rfl t122).trans rfl) ?_
                   go_simp
                   exact hK _ _ jE rfl (fun _ _ _ h => h))
            · refine stepL_of ?_
              rintro F a w1 jE ⟨h9, t123, h8, t122, -⟩ - K hK
              have h9 : (F 9) = (if ((k1 && !bi)) = true then .bool bo else undef) := h9
              rw [h9] at t123
              clear h9
              have h8 : (F 8) = .bool (k1 && !bi) := h8
              rw [h8] at t122
              clear h8
              cases k1 <;> cases bi <;> cases bo
              all_goals first
                | (exact stepN ((wanted_of 8 true 122 _ rfl rfl t122).trans rfl) (hK undef _ jE rfl (fun _ _ _ h => h)))
                | (exact stepN (wanted_undef 8 true 122 rfl rfl t122) (hK undef _ jE rfl (fun _ _ _ h => h)))
                | (refine stepY ((wanted_of 8 true 122 _ rfl rfl t122).trans rfl) ?_
                   go_simp
                   exact hK _ _ jE rfl (fun _ _ _ h => h))
            · refine stepL_plain rfl ?_
              rintro F a w1 jE ⟨h8, t122, h10, t124, -⟩ - K hK
              have h8 : (F 8) = .bool (k1 && !bi) := h8
              rw [h8] at t122
              clear h8
              have h10 : (F 10) = (if ((k1 && !bi)) = true then .bool (!bo) else undef) := h10
              rw [h10] at t124
              clear h10
              cases k1 <;> cases bi <;> cases bo
              all_goals
                go_simp
                exact hK _ _ jE rfl (fun _ _ _ h => h)
            · refine stepL_plain rfl ?_
              rintro F a w1 jE ⟨h11, t125, -⟩ - K hK
              have h11 : (F 11) = .bool ((k1 && !bi) && !bo) := h11
              rw [h11] at t125
              clear h11
              go_simp
              exact hK _ _ jE rfl (fun _ _ _ h => h)
            · refine stepL_of ?_
              rintro F a w1 jE ⟨h12, t126, -⟩ ⟨t5, -⟩ K hK
              have h12 : (F 12) = .bool ((k1 && !bi) && !bo) := h12
              rw [h12] at t126
              clear h12
              have t5 : a.tmps[5]? = some (.pointer (some ⟨gu, 0, none⟩)) := t5
              cases bi <;> cases bo <;> cases k1
              all_goals first
                | (exact stepN ((wanted_of 12 true 126 _ rfl rfl t126).trans rfl) (hK undef _ jE rfl (fun _ _ _ h => h)))
                | (exact stepN (wanted_undef 12 true 126 rfl rfl t126) (hK undef _ jE rfl (fun _ _ _ h => h)))
                | (refine stepY ((wanted_of 12 true 126 _ rfl rfl t126).trans rfl) ?_
                   go_simp
                   exact hK _ _ jE rfl (fun _ _ _ h => h))
            · refine stepL_of ?_
              rintro F a w1 jE ⟨h13, t127, h12, t126, -⟩ - K hK
              have h13 : (F 13) = (if (((k1 && !bi) && !bo)) = true then .pointer (some ⟨gu, 0, none⟩) else undef) := h13
              rw [h13] at t127
              clear h13
              have h12 : (F 12) = .bool ((k1 && !bi) && !bo) := h12
              rw [h12] at t126
              clear h12
              cases bi <;> cases bo <;> cases k1
              all_goals first
                | (exact stepN ((wanted_of 12 true 126 _ rfl rfl t126).trans rfl) (hK undef _ jE rfl (fun _ _ _ h => h)))
                | (exact stepN (wanted_undef 12 true 126 rfl rfl t126) (hK undef _ jE rfl (fun _ _ _ h => h)))
                | (refine stepY ((wanted_of 12 true 126 _ rfl rfl t126).trans rfl) ?_
                   have c := (jE.blk Bu (by simp)).cell
                   go_simp
                   exact hK _ _ jE rfl (fun _ _ _ h => h))
            · refine stepL_of ?_
              rintro F a w1 jE ⟨h12, t126, -⟩ ⟨t2, -⟩ K hK
              have h12 : (F 12) = .bool ((k1 && !bi) && !bo) := h12
              rw [h12] at t126
              clear h12
              have t2 : a.tmps[2]? = some (.pointer (some ⟨g, 0, none⟩)) := t2
              cases bi <;> cases bo <;> cases k1
              all_goals first
                | (exact stepN ((wanted_of 12 true 126 _ rfl rfl t126).trans rfl) (hK undef _ jE rfl (fun _ _ _ h => h)))
                | (exact stepN (wanted_undef 12 true 126 rfl rfl t126) (hK undef _ jE rfl (fun _ _ _ h => h)))
                | (refine stepY ((wanted_of 12 true 126 _ rfl rfl t126).trans rfl) ?_
                   go_simp
                   exact hK _ _ jE rfl (fun _ _ _ h => h))
            · refine stepL_of ?_
              rintro F a w1 jE ⟨h15, t129, h12, t126, -⟩ - K hK
              have h15 : (F 15) = (if (((k1 && !bi) && !bo)) = true then .pointer (some ⟨g, 4, none⟩) else undef) := h15
              rw [h15] at t129
              clear h15
              have h12 : (F 12) = .bool ((k1 && !bi) && !bo) := h12
              rw [h12] at t126
              clear h12
              cases bi <;> cases bo <;> cases k1
              all_goals first
                | (exact stepN ((wanted_of 12 true 126 _ rfl rfl t126).trans rfl) (hK undef _ jE rfl (fun _ _ _ h => h)))
                | (exact stepN (wanted_undef 12 true 126 rfl rfl t126) (hK undef _ jE rfl (fun _ _ _ h => h)))
                | (refine stepY ((wanted_of 12 true 126 _ rfl rfl t126).trans rfl) ?_
                   go_simp
                   exact hK _ _ jE rfl (fun _ _ _ h => h))
            · refine stepL_of ?_
              rintro F a w1 jE ⟨h16, t130, h12, t126, -⟩ - K hK
              have h16 : (F 16) = (if (((k1 && !bi) && !bo)) = true then .pointer (some ⟨g, 5, none⟩) else undef) := h16
              rw [h16] at t130
              clear h16
              have h12 : (F 12) = .bool ((k1 && !bi) && !bo) := h12
              rw [h12] at t126
              clear h12
              cases bi <;> cases bo <;> cases k1
              all_goals first
                | (exact stepN ((wanted_of 12 true 126 _ rfl rfl t126).trans rfl) (hK undef _ jE rfl (fun _ _ _ h => h)))
                | (exact stepN (wanted_undef 12 true 126 rfl rfl t126) (hK undef _ jE rfl (fun _ _ _ h => h)))
                | (refine stepY ((wanted_of 12 true 126 _ rfl rfl t126).trans rfl) ?_
                   have c := (jE.blk Bs (by simp)).cell
                   go_simp
                   exact hK _ _ jE rfl (fun _ _ _ h => h))
            · refine stepL_of ?_
              rintro F a w1 jE ⟨h14, t128, h17, t131, h12, t126, -⟩ - K hK
              have h14 : (F 14) = (if (((k1 && !bi) && !bo)) = true then .int .i64 W else undef) := h14
              rw [h14] at t128
              clear h14
              have h17 : (F 17) = (if (((k1 && !bi) && !bo)) = true then .int .i64 s.w.n else undef) := h17
              rw [h17] at t131
              clear h17
              have h12 : (F 12) = .bool ((k1 && !bi) && !bo) := h12
              rw [h12] at t126
              clear h12
              cases bi <;> cases bo <;> cases k1
              all_goals first
                | (exact stepN ((wanted_of 12 true 126 _ rfl rfl t126).trans rfl) (hK undef _ jE rfl (fun _ _ _ h => h)))
                | (exact stepN (wanted_undef 12 true 126 rfl rfl t126) (hK undef _ jE rfl (fun _ _ _ h => h)))
                | (refine stepY ((wanted_of 12 true 126 _ rfl rfl t126).trans rfl) ?_
                   have e1 : (W != s.w.n) = !y1 := by rw [← unhide Hhy1]; rfl
                   go_simp
                   exact hK _ _ jE rfl (fun _ _ _ h => h))
            · refine stepL_plain rfl ?_
              rintro F a w1 jE ⟨h12, t126, h18, t132, -⟩ - K hK
              have h12 : (F 12) = .bool ((k1 && !bi) && !bo) := h12
              rw [h12] at t126
              clear h12
              have h18 : (F 18) = (if (((k1 && !bi) && !bo)) = true then .bool (!y1) else undef) := h18
              rw [h18] at t132
              clear h18
              cases k1 <;> cases bi <;> cases bo <;> cases y1
              all_goals
                first | (exact absurd (unhide HT3) (by decide)) | (go_simp; exact hK _ _ jE rfl (fun _ _ _ h => h))
          · rintro F wq jE ⟨h19, -⟩
            have h19 : (F 19) = .bool false := h19
            have hx := jE.ext (Ext.refl _) (by simp)
            replace E0 := E0.trans hx
            replace Bs := Bs.ext hx
            replace Bu := Bu.ext hx
            clear jE hx
            simp only [putL, Act.put, Nat.reduceAdd, Nat.zero_add, List.setIfInBounds_toArray, List.set_cons_succ, List.set_cons_zero]
            rw [h19]
            clear h19
            go_upto_region 17 with fail
            refine wp_region_lin0 (fun w' => (ExtX wq w' [])) (fun ii vv ww => match ii with | 0 => vv = .pointer (some ⟨g, 16, none⟩) | 1 => vv = .pointer (some ⟨g, 22, none⟩) | 2 => vv = .pointer (some ⟨g, 22, none⟩) | 3 => vv = .int .u8 s.m3.k | 4 => vv = .bool (!k2) | 5 => vv = .bool (!k2) | 6 => vv = (if (!(!k2)) = true then .pointer (some ⟨gu, 1, none⟩) else undef) | 7 => vv = (if (!(!k2)) = true then .int .i64 LL else undef) | 8 => vv = (if (!(!k2)) = true then .pointer (some ⟨g, 16, none⟩) else undef) | 9 => vv = (if (!(!k2)) = true then .pointer (some ⟨g, 22, none⟩) else undef) | 10 => vv = (if (!(!k2)) = true then .pointer (some ⟨g, 23, none⟩) else undef) | 11 => vv = (if (!(!k2)) = true then .int .i64 s.m3.n else undef) | 12 => vv = (if (!(!k2)) = true then .bool y2 else undef) | 13 => vv = .bool true | 14 => vv = .bool true | 15 => vv = .bool true | 16 => vv = .bool true | 17 => vv = .bool true | _ => True) (fun ii => match ii with | 1 => [(0, 134)] | 2 => [(1, 135)] | 3 => [(2, 136)] | 4 => [(3, 137)] | 5 => [(4, 138)] | 6 => [(5, 139)] | 7 => [(6, 140), (5, 139)] | 8 => [(5, 139)] | 9 => [(8, 142), (5, 139)] | 10 => [(9, 143), (5, 139)] | 11 => [(10, 144), (5, 139)] | 12 => [(7, 141), (11, 145), (5, 139)] | 13 => [(5, 139), (12, 146)] | 14 => [(13, 147)] | 15 => [(14, 148)] | 16 => [(14, 148), (15, 149)] | 17 => [(16, 150)] | _ => []) (fun ii => match ii with | 0 => [2] | 6 => [5] | 8 => [2] | _ => []) (fun ii => match ii with | 6 => [5, 8, 9, 10, 11] | 7 => [5, 8, 9, 10, 11] | 8 => [5, 6, 7] | 9 => [5, 6, 7] | 10 => [5, 6, 7] | 11 => [5, 6, 7] | 12 => [5] | 15 => [14] | _ => []) [17] [0, 1, 3, 7, 15, 31, 63, 127, 63, 319, 831, 1855, 4095, 8191, 16383, 32767, 65535, 131071] 151 rfl (by kernel_rfl) (ExtX.refl _ _) ?_ ?_
            · rename_i hcont; clear hcont
              refine ⟨?_, ?_, ?_, ?_, ?_, ?_, ?_, ?_, ?_, ?_, ?_, ?_, ?_, ?_, ?_, ?_, ?_, ?_, trivial⟩
              · refine stepL_plain rfl ?_
                rintro F a w1 jE - ⟨t2, -⟩ K hK
                have t2 : a.tmps[2]? = some (.pointer (some ⟨g, 0, none⟩)) := t2
                go_simp
                exact hK _ _ jE rfl (fun _ _ _ h => h)
              · refine stepL_plain rfl ?_
                rintro F a w1 jE ⟨h0, t134, -⟩ - K hK
                have h0 : (F 0) = .pointer (some ⟨g, 16, none⟩) := h0
                rw [h0] at t134
                clear h0
                go_simp
                exact hK _ _ jE rfl (fun _ _ _ h => h)
              · refine stepL_plain rfl ?_
                rintro F a w1 jE ⟨h1, t135, -⟩ - K hK
                have h1 : (F 1) = .pointer (some ⟨g, 22, none⟩) := h1
                rw [h1] at t135
                clear h1
                go_simp
                exact hK _ _ jE rfl (fun _ _ _ h => h)
              · refine stepL_plain rfl ?_
                rintro F a w1 jE ⟨h2, t136, -⟩ - K hK
                have h2 : (F 2) = .pointer (some ⟨g, 22, none⟩) := h2
                rw [h2] at t136
                clear h2
                have c := (jE.blk Bs (by simp)).cell
                go_simp
                exact hK _ _ jE rfl (fun _ _ _ h => h)
              · refine stepL_plain rfl ?_
                rintro F a w1 jE ⟨h3, t137, -⟩ - K hK
                have h3 : (F 3) = .int .u8 s.m3.k := h3
                rw [h3] at t137
                clear h3
                have e1 : (s.m3.k != 1) = !k2 := by rw [← unhide Hhk2]; rfl
                go_simp
                exact hK _ _ jE rfl (fun _ _ _ h => h)
              · refine stepL_plain rfl ?_
                rintro F a w1 jE ⟨h4, t138, -⟩ - K hK
                have h4 : (F 4) = .bool (!k2) := h4
                rw [h4] at t138
                clear h4
                go_simp
                exact hK _ _ jE rfl (fun _ _ _ h => h)
              · refine stepL_of ?_
                rintro F a w1 jE ⟨h5, t139, -⟩ ⟨t5, -⟩ K hK
                have h5 : (F 5) = .bool (!k2) := h5
                rw [h5] at t139
                clear h5
                have t5 : a.tmps[5]? = some (.pointer (some ⟨gu, 0, none⟩)) := t5
                cases k2
                all_goals first
                  | (exact stepN ((wanted_of 5 false 139 _ rfl rfl t139).trans rfl) (hK undef _ jE rfl (fun _ _ _ h => h)))
                  | (exact stepN (wanted_undef 5 false 139 rfl rfl t139) (hK undef _ jE rfl (fun _ _ _ h => h)))
                  | (refine stepY ((wanted_of 5 false 139 _ rfl rfl t139).trans rfl) ?_
                     go_simp
                     exact hK _ _ jE rfl (fun _ _ _ h => h))
              · refine stepL_of ?_
                rintro F a w1 jE ⟨h6, t140, h5, t139, -⟩ - K hK
                have h6 : (F 6) = (if (!(!k2)) = true then .pointer (some ⟨gu, 1, none⟩) else undef) := h6
                rw [h6] at t140
                clear h6
                have h5 : (F 5) = .bool (!k2) := h5
                rw [h5] at t139
                clear h5
                cases k2
                all_goals first
                  | (exact stepN ((wanted_of 5 false 139 _ rfl rfl t139).trans rfl) (hK undef _ jE rfl (fun _ _ _ h => h)))
                  | (exact stepN (wanted_undef 5 false 139 rfl rfl t139) (hK undef _ jE rfl (fun _ _ _ h => h)))
                  | (refine stepY ((wanted_of 5 false 139 _ rfl rfl t139).trans rfl) ?_
                     have c := (jE.blk Bu (by simp)).cell
                     go_simp
                     exact hK _ _ jE rfl (fun _ _ _ h => h))
              · refine stepL_of ?_
                rintro F a w1 jE ⟨h5, t139, -⟩ ⟨t2, -⟩ K hK
                have h5 : (F 5) = .bool (!k2) := h5
                rw [h5] at t139
                clear h5
                have t2 : a.tmps[2]? = some (.pointer (some ⟨g, 0, none⟩)) := t2
                cases k2
                all_goals first
                  | (exact stepN ((wanted_of 5 false 139 _ rfl rfl t139).trans rfl) (hK undef _ jE rfl (fun _ _ _ h => h)))
                  | (exact stepN (wanted_undef 5 false 139 rfl rfl t139) (hK undef _ jE rfl (fun _ _ _ h => h)))
                  | (refine stepY ((wanted_of 5 false 139 _ rfl rfl t139).trans rfl) ?_
                     go_simp
                     exact hK _ _ jE rfl (fun _ _ _ h => h))
              · refine stepL_of ?_
                rintro F a w1 jE ⟨h8, t142, h5, t139, -⟩ - K hK
                have h8 : (F 8) = (if (!(!k2)) = true then .pointer (some ⟨g, 16, none⟩) else undef) := h8
                rw [h8] at t142
                clear h8
                have h5 : (F 5) = .bool (!k2) := h5
                rw [h5] at t139
                clear h5
                cases k2
                all_goals first
                  | (exact stepN ((wanted_of 5 false 139 _ rfl rfl t139).trans rfl) (hK undef _ jE rfl (fun _ _ _ h => h)))
                  | (exact stepN (wanted_undef 5 false 139 rfl rfl t139) (hK undef _ jE rfl (fun _ _ _ h => h)))
                  | (refine stepY ((wanted_of 5 false 139 _ rfl rfl t139).trans rfl) ?_
                     go_simp
                     exact hK _ _ jE rfl (fun _ _ _ h => h))
              · refine stepL_of ?_
                rintro F a w1 jE ⟨h9, t143, h5, t139, -⟩ - K hK
                have h9 : (F 9) = (if (!(!k2)) = true then .pointer (some ⟨g, 22, none⟩) else undef) := h9
                rw [h9] at t143
                clear h9
                have h5 : (F 5) = .bool (!k2) := h5
                rw [h5] at t139
                clear h5
                cases k2
                all_goals first
                  | (exact stepN ((wanted_of 5 false 139 _ rfl rfl t139).trans rfl) (hK undef _ jE rfl (fun _ _ _ h => h)))
                  | (exact stepN (wanted_undef 5 false 139 rfl rfl t139) (hK undef _ jE rfl (fun _ _ _ h => h)))
                  | (refine stepY ((wanted_of 5 false 139 _ rfl rfl t139).trans rfl) ?_
                     go_simp
                     exact hK _ _ jE rfl (fun _ _ _ h => h))
              · refine stepL_of ?_
                rintro F a w1 jE ⟨h10, t144, h5, t139, -⟩ - K hK
                have h10 : (F 10) = (if (!(!k2)) = true then .pointer (some ⟨g, 23, none⟩) else undef) := h10
                rw [h10] at t144
                clear h10
                have h5 : (F 5) = .bool (!k2) := h5
                rw [h5] at t139
                clear h5
                cases k2
                all_goals first
                  | (exact stepN ((wanted_of 5 false 139 _ rfl rfl t139).trans rfl) (hK undef _ jE rfl (fun _ _ _ h => h)))
                  | (exact stepN (wanted_undef 5 false 139 rfl rfl t139) (hK undef _ jE rfl (fun _ _ _ h => h)))
                  | (refine stepY ((wanted_of 5 false 139 _ rfl rfl t139).trans rfl) ?_
                     have c := (jE.blk Bs (by simp)).cell
                     go_simp
                     exact hK _ _ jE rfl (fun _ _ _ h => h))
              · refine stepL_of ?_
                rintro F a w1 jE ⟨h7, t141, h11, t145, h5, t139, -⟩ - K hK
                have h7 : (F 7) = (if (!(!k2)) = true then .int .i64 LL else undef) := h7
                rw [h7] at t141
                clear h7
                have h11 : (F 11) = (if (!(!k2)) = true then .int .i64 s.m3.n else undef) := h11
                rw [h11] at t145
                clear h11
                have h5 : (F 5) = .bool (!k2) := h5
                rw [h5] at t139
                clear h5
                cases k2
                all_goals first
                  | (exact stepN ((wanted_of 5 false 139 _ rfl rfl t139).trans rfl) (hK undef _ jE rfl (fun _ _ _ h => h)))
                  | (exact stepN (wanted_undef 5 false 139 rfl rfl t139) (hK undef _ jE rfl (fun _ _ _ h => h)))
                  | (refine stepY ((wanted_of 5 false 139 _ rfl rfl t139).trans rfl) ?_
                     have e1 := unhide Hhy2
                     go_simp
                     exact hK _ _ jE rfl (fun _ _ _ h => h))
              · refine stepL_plain rfl ?_
                rintro F a w1 jE ⟨h5, t139, h12, t146, -⟩ - K hK
                have h5 : (F 5) = .bool (!k2) := h5
                rw [h5] at t139
                clear h5
                have h12 : (F 12) = (if (!(!k2)) = true then .bool y2 else undef) := h12
                rw [h12] at t146
                clear h12
                cases k2 <;> cases y2
                all_goals
                  first | (exact absurd (unhide HT4) (by decide)) | (go_simp; exact hK _ _ jE rfl (fun _ _ _ h => h))
              · refine stepL_plain rfl ?_
                rintro F a w1 jE ⟨h13, t147, -⟩ - K hK
                have h13 : (F 13) = .bool true := h13
                rw [h13] at t147
                clear h13
                go_simp
                exact hK _ _ jE rfl (fun _ _ _ h => h)
              · refine stepL_of ?_
                rintro F a w1 jE ⟨h14, t148, -⟩ - K hK
                have h14 : (F 14) = .bool true := h14
                rw [h14] at t148
                clear h14
                refine stepY ((wanted_of 14 true 148 _ rfl rfl t148).trans rfl) ?_
                go_simp
                with_reducible refine (works_any _).mono ?_
                rintro e w2 ⟨rfl, hx⟩
                exact hK _ _ (jE.trans hx) (rfl) (by intro jq hj uq h; have hj : jq ∈ [14] := hj; simp only [List.mem_singleton] at hj; subst hj; exact h)
              · refine stepL_plain rfl ?_
                rintro F a w1 jE ⟨h14, t148, h15, t149, -⟩ - K hK
                have h14 : (F 14) = .bool true := h14
                rw [h14] at t148
                clear h14
                have h15 : (F 15) = .bool true := h15
                rw [h15] at t149
                clear h15
                go_simp
                exact hK _ _ jE rfl (fun _ _ _ h => h)
              · refine stepL_plain rfl ?_
                rintro F a w1 jE ⟨h16, t150, -⟩ - K hK
                have h16 : (F 16) = .bool true := h16
                rw [h16] at t150
                clear h16
                go_simp
                exact hK _ _ jE rfl (fun _ _ _ h => h)
            · rintro F wr jE ⟨h17, -⟩
              have h17 : (F 17) = .bool true := h17
              have hx := jE.ext (Ext.refl _) (by simp)
              replace E0 := E0.trans hx
              clear jE hx
              simp only [putL, Act.put, Nat.reduceAdd, Nat.zero_add, List.setIfInBounds_toArray, List.set_cons_succ, List.set_cons_zero]
              rw [h17]
              clear h17
              go_wp2_with fail
              go_ret
              exact ⟨rfl, E0⟩

theorem law_sum (s : Sty) (c : Int) (w : World) :
    Calls Try.prog 3 #[.agg s.cells, .int .i64 c] w fun e w' => e = .returned (.bool true) ∧ Ext w w' := by
  cases hM : mayB s
  · exact sum_1 s c hM w
  by_cases h1 : c < 0
  · exact sum_2 s c hM h1 w
  by_cases h2 : 1099511627776 < c
  · exact sum_3 s c hM (by omega) h2 w
  cases hB : (cutB (flowW s c) || cutB (flowL s c) || cutB (flowR s c))
  · exact sum_5 s c hM (by omega) (by omega) hB w
  · exact sum_4 s c hM (by omega) (by omega) hB w
end Go.Proofs.Ytkajcipfmdpneaa
