/- Styles: the law on lengths (walk). -/
import Derived.Test.YtahneblnbafpoaaStW
namespace Go.Proofs.Ytahneblnbafpoaa
open Go.RowKit
set_option maxRecDepth 100000 in
set_option maxHeartbeats 8000000 in
theorem law_lens (l le mo : Ln) (h : Int) (hl : bd64 l.n) (hle : bd64 le.n) (hmo : bd64 mo.n) (hh : bd64 h) (w : World) :
    Calls Try.prog 4 #[l.v, le.v, mo.v, .int .i64 h] w fun e w' => e = .returned (.bool true) ∧ Ext w w' := by
  have c1 := fun w => hide (pof_any l h hl hh w)
  have c2 := fun w => hide (rof_any l h hl hh w)
  have c3 := fun w => hide (psize_any l le mo h hl hle hmo hh w)
  have c4 := fun w => hide (rsize_any l le mo h hl hle hmo hh w)
  clear hl hle hmo hh
  generalize sizeN l le mo h = sn at *
  generalize sizeB l le mo h = sb at *
  generalize ofN l h = n1 at *
  generalize ofA l = a1 at *
  generalize ofB l h = b1 at *
  obtain ⟨k1, m1⟩ := l
  obtain ⟨k2, m2⟩ := le
  obtain ⟨k3, m3⟩ := mo
  go_enter Try.func4, Try.ntmps4
  go_upto_region 1 with fail
  have B1 : Blk (((w.alloc (.cells #[.int .u8 k1, .int .i64 m1] 23)).alloc (.cells #[.int .u8 k2, .int .i64 m2] 23)).alloc (.cells #[.int .u8 k3, .int .i64 m3] 23)) w.heap.size 23 #[.int .u8 k1, .int .i64 m1] := ((Blk.new _ _ _).alloc _).alloc _
  have B2 : Blk (((w.alloc (.cells #[.int .u8 k1, .int .i64 m1] 23)).alloc (.cells #[.int .u8 k2, .int .i64 m2] 23)).alloc (.cells #[.int .u8 k3, .int .i64 m3] 23)) (w.heap.size + 1) 23 #[.int .u8 k2, .int .i64 m2] := (Blk.new1 _ _ _ _).alloc _
  have B3 : Blk (((w.alloc (.cells #[.int .u8 k1, .int .i64 m1] 23)).alloc (.cells #[.int .u8 k2, .int .i64 m2] 23)).alloc (.cells #[.int .u8 k3, .int .i64 m3] 23)) (w.heap.size + 2) 23 #[.int .u8 k3, .int .i64 m3] := Blk.new2 _ _ _ _ _
  have E1 : Ext w (((w.alloc (.cells #[.int .u8 k1, .int .i64 m1] 23)).alloc (.cells #[.int .u8 k2, .int .i64 m2] 23)).alloc (.cells #[.int .u8 k3, .int .i64 m3] 23)) := (((Ext.refl _).alloc _).alloc _).alloc _
  generalize (((w.alloc (.cells #[.int .u8 k1, .int .i64 m1] 23)).alloc (.cells #[.int .u8 k2, .int .i64 m2] 23)).alloc (.cells #[.int .u8 k3, .int .i64 m3] 23)) = wa at *
  have d1 := B1.cell
  have l1 := B1.lt
  have d2 := B2.cell
  have l2 := B2.lt
  have d3 := B3.cell
  have l3 := B3.lt
  go_wp2_with fail
  refine (unhide (c1 _)).mono ?_
  rintro e w1 ⟨rfl, hx⟩
  replace B1 := B1.ext hx
  replace B2 := B2.ext hx
  replace B3 := B3.ext hx
  replace E1 := E1.trans hx
  clear hx c1
  clear d1 l1 d2 l2 d3 l3
  have d1 := B1.cell
  have l1 := B1.lt
  have d2 := B2.cell
  have l2 := B2.lt
  have d3 := B3.cell
  have l3 := B3.lt
  go_wp2_with fail
  refine (unhide (c2 _)).mono ?_
  rintro e w2 ⟨rfl, hx⟩
  replace B1 := B1.ext hx
  replace B2 := B2.ext hx
  replace B3 := B3.ext hx
  replace E1 := E1.trans hx
  clear hx c2
  clear d1 l1 d2 l2 d3 l3
  have d1 := B1.cell
  have l1 := B1.lt
  have d2 := B2.cell
  have l2 := B2.lt
  have d3 := B3.cell
  have l3 := B3.lt
  go_wp2_with fail
  refine (unhide (c3 _)).mono ?_
  rintro e w3 ⟨rfl, hx⟩
  replace B1 := B1.ext hx
  replace B2 := B2.ext hx
  replace B3 := B3.ext hx
  replace E1 := E1.trans hx
  clear hx c3
  clear d1 l1 d2 l2 d3 l3
  have d1 := B1.cell
  have l1 := B1.lt
  have d2 := B2.cell
  have l2 := B2.lt
  have d3 := B3.cell
  have l3 := B3.lt
  go_wp2_with fail
  refine (unhide (c4 _)).mono ?_
  rintro e w4 ⟨rfl, hx⟩
  replace B1 := B1.ext hx
  replace B2 := B2.ext hx
  replace B3 := B3.ext hx
  replace E1 := E1.trans hx
  clear hx c4
  clear d1 l1 d2 l2 d3 l3
  go_upto_region 5 with fail
  refine wp_region_lin0 (fun w' => (ExtX w4 w' [])) (fun ii vv ww => match ii with | 0 => vv = .int .i64 n1 | 1 => vv = .int .i64 n1 | 2 => vv = .bool true | 3 => vv = .bool true | 4 => vv = .bool a1 | 5 => vv = .bool a1 | 6 => vv = .bool true | 7 => vv = .bool true | 8 => vv = .bool true | 9 => vv = .bool b1 | 10 => vv = .bool b1 | 11 => vv = .bool true | 12 => vv = .bool true | 13 => vv = .bool true | 14 => vv = .int .i64 sn | 15 => vv = .int .i64 sn | 16 => vv = .bool true | 17 => vv = .bool true | 18 => vv = .bool true | 19 => vv = .bool a1 | 20 => vv = .bool a1 | 21 => vv = .bool true | 22 => vv = .bool true | 23 => vv = .bool true | 24 => vv = .bool sb | 25 => vv = .bool sb | 26 => vv = .bool true | 27 => vv = .bool true | 28 => vv = .bool true | 29 => vv = .bool true | 30 => vv = .bool true | 31 => vv = .bool true | _ => True) (fun ii => match ii with | 2 => [(0, 53), (1, 54)] | 3 => [(2, 55)] | 4 => [(3, 56)] | 5 => [(3, 56)] | 6 => [(4, 57), (5, 58), (3, 56)] | 7 => [(3, 56), (6, 59)] | 8 => [(7, 60)] | 9 => [(8, 61)] | 10 => [(8, 61)] | 11 => [(9, 62), (10, 63), (8, 61)] | 12 => [(8, 61), (11, 64)] | 13 => [(12, 65)] | 14 => [(13, 66)] | 15 => [(13, 66)] | 16 => [(14, 67), (15, 68), (13, 66)] | 17 => [(13, 66), (16, 69)] | 18 => [(17, 70)] | 19 => [(18, 71)] | 20 => [(18, 71)] | 21 => [(19, 72), (20, 73), (18, 71)] | 22 => [(18, 71), (21, 74)] | 23 => [(22, 75)] | 24 => [(23, 76)] | 25 => [(23, 76)] | 26 => [(24, 77), (25, 78), (23, 76)] | 27 => [(23, 76), (26, 79)] | 28 => [(27, 80)] | 29 => [(28, 81)] | 30 => [(28, 81), (29, 82)] | 31 => [(30, 83)] | _ => []) (fun ii => match ii with | 0 => [9] | 1 => [12] | 4 => [10] | 5 => [13] | 9 => [11] | 10 => [14] | 14 => [15] | 15 => [18] | 19 => [16] | 20 => [19] | 24 => [17] | 25 => [20] | _ => []) (fun ii => match ii with | 0 => [1] | 1 => [0] | 4 => [3, 5] | 5 => [3, 4] | 6 => [3] | 9 => [8, 10] | 10 => [8, 9] | 11 => [8] | 14 => [13, 15] | 15 => [13, 14] | 16 => [13] | 19 => [18, 20] | 20 => [18, 19] | 21 => [18] | 24 => [23, 25] | 25 => [23, 24] | 26 => [23] | 29 => [28] | _ => []) [31] [0, 0, 3, 7, 15, 15, 63, 127, 255, 511, 511, 2047, 4095, 8191, 16383, 16383, 65535, 131071, 262143, 524287, 524287, 2097151, 4194303, 8388607, 16777215, 16777215, 67108863, 134217727, 268435455, 536870911, 1073741823, 2147483647] 84 rfl (by kernel_rfl) (ExtX.refl _ _) ?_ ?_
  · rename_i hcont; clear hcont
    refine ⟨?_, ?_, ?_, ?_, ?_, ?_, ?_, ?_, ?_, ?_, ?_, ?_, ?_, ?_, ?_, ?_, ?_, ?_, ?_, ?_, ?_, ?_, ?_, ?_, ?_, ?_, ?_, ?_, ?_, ?_, ?_, ?_, trivial⟩
    · refine stepL_plain rfl ?_
      rintro F a w1 jE - ⟨t9, -⟩ K hK
      have t9 : a.tmps[9]? = some (.int .i64 n1) := t9
      go_simp
      exact hK _ _ jE rfl (fun _ _ _ h => h)
    · refine stepL_plain rfl ?_
      rintro F a w1 jE - ⟨t12, -⟩ K hK
      have t12 : a.tmps[12]? = some (.int .i64 n1) := t12
      go_simp
      exact hK _ _ jE rfl (fun _ _ _ h => h)
    · refine stepL_plain rfl ?_
      rintro F a w1 jE ⟨h0, t53, h1, t54, -⟩ - K hK
      have h0 : (F 0) = .int .i64 n1 := h0
      rw [h0] at t53
      clear h0
      have h1 : (F 1) = .int .i64 n1 := h1
      rw [h1] at t54
      clear h1
      go_simp
      exact hK _ _ jE rfl (fun _ _ _ h => h)
    · refine stepL_plain rfl ?_
      rintro F a w1 jE ⟨h2, t55, -⟩ - K hK
      have h2 : (F 2) = .bool true := h2
      rw [h2] at t55
      clear h2
      go_simp
      exact hK _ _ jE rfl (fun _ _ _ h => h)
    · refine stepL_of ?_
      rintro F a w1 jE ⟨h3, t56, -⟩ ⟨t10, -⟩ K hK
      have h3 : (F 3) = .bool true := h3
      rw [h3] at t56
      clear h3
      have t10 : a.tmps[10]? = some (.bool a1) := t10
      refine stepY ((wanted_of 3 true 56 _ rfl rfl t56).trans rfl) ?_
      go_simp
      exact hK _ _ jE rfl (fun _ _ _ h => h)
    · refine stepL_of ?_
      rintro F a w1 jE ⟨h3, t56, -⟩ ⟨t13, -⟩ K hK
      have h3 : (F 3) = .bool true := h3
      rw [h3] at t56
      clear h3
      have t13 : a.tmps[13]? = some (.bool a1) := t13
      refine stepY ((wanted_of 3 true 56 _ rfl rfl t56).trans rfl) ?_
      go_simp
      exact hK _ _ jE rfl (fun _ _ _ h => h)
    · refine stepL_of ?_
      rintro F a w1 jE ⟨h4, t57, h5, t58, h3, t56, -⟩ - K hK
      have h4 : (F 4) = .bool a1 := h4
      rw [h4] at t57
      clear h4
      have h5 : (F 5) = .bool a1 := h5
      rw [h5] at t58
      clear h5
      have h3 : (F 3) = .bool true := h3
      rw [h3] at t56
      clear h3
      refine stepY ((wanted_of 3 true 56 _ rfl rfl t56).trans rfl) ?_
      have e1 : (a1 == a1) = true := by simp
      go_simp
      exact hK _ _ jE rfl (fun _ _ _ h => h)
    · refine stepL_plain rfl ?_
      rintro F a w1 jE ⟨h3, t56, h6, t59, -⟩ - K hK
      have h3 : (F 3) = .bool true := h3
      rw [h3] at t56
      clear h3
      have h6 : (F 6) = .bool true := h6
      rw [h6] at t59
      clear h6
      go_simp
      exact hK _ _ jE rfl (fun _ _ _ h => h)
    · refine stepL_plain rfl ?_
      rintro F a w1 jE ⟨h7, t60, -⟩ - K hK
      have h7 : (F 7) = .bool true := h7
      rw [h7] at t60
      clear h7
      go_simp
      exact hK _ _ jE rfl (fun _ _ _ h => h)
    · refine stepL_of ?_
      rintro F a w1 jE ⟨h8, t61, -⟩ ⟨t11, -⟩ K hK
      have h8 : (F 8) = .bool true := h8
      rw [h8] at t61
      clear h8
      have t11 : a.tmps[11]? = some (.bool b1) := t11
      refine stepY ((wanted_of 8 true 61 _ rfl rfl t61).trans rfl) ?_
      go_simp
      exact hK _ _ jE rfl (fun _ _ _ h => h)
    · refine stepL_of ?_
      rintro F a w1 jE ⟨h8, t61, -⟩ ⟨t14, -⟩ K hK
      have h8 : (F 8) = .bool true := h8
      rw [h8] at t61
      clear h8
      have t14 : a.tmps[14]? = some (.bool b1) := t14
      refine stepY ((wanted_of 8 true 61 _ rfl rfl t61).trans rfl) ?_
      go_simp
      exact hK _ _ jE rfl (fun _ _ _ h => h)
    · refine stepL_of ?_
      rintro F a w1 jE ⟨h9, t62, h10, t63, h8, t61, -⟩ - K hK
      have h9 : (F 9) = .bool b1 := h9
      rw [h9] at t62
      clear h9
      have h10 : (F 10) = .bool b1 := h10
      rw [h10] at t63
      clear h10
      have h8 : (F 8) = .bool true := h8
      rw [h8] at t61
      clear h8
      refine stepY ((wanted_of 8 true 61 _ rfl rfl t61).trans rfl) ?_
      have e1 : (b1 == b1) = true := by simp
      go_simp
      exact hK _ _ jE rfl (fun _ _ _ h => h)
    · refine stepL_plain rfl ?_
      rintro F a w1 jE ⟨h8, t61, h11, t64, -⟩ - K hK
      have h8 : (F 8) = .bool true := h8
      rw [h8] at t61
      clear h8
      have h11 : (F 11) = .bool true := h11
      rw [h11] at t64
      clear h11
      go_simp
      exact hK _ _ jE rfl (fun _ _ _ h => h)
    · refine stepL_plain rfl ?_
      rintro F a w1 jE ⟨h12, t65, -⟩ - K hK
      have h12 : (F 12) = .bool true := h12
      rw [h12] at t65
      clear h12
      go_simp
      exact hK _ _ jE rfl (fun _ _ _ h => h)
    · refine stepL_of ?_
      rintro F a w1 jE ⟨h13, t66, -⟩ ⟨t15, -⟩ K hK
      have h13 : (F 13) = .bool true := h13
      rw [h13] at t66
      clear h13
      have t15 : a.tmps[15]? = some (.int .i64 sn) := t15
      refine stepY ((wanted_of 13 true 66 _ rfl rfl t66).trans rfl) ?_
      go_simp
      exact hK _ _ jE rfl (fun _ _ _ h => h)
    · refine stepL_of ?_
      rintro F a w1 jE ⟨h13, t66, -⟩ ⟨t18, -⟩ K hK
      have h13 : (F 13) = .bool true := h13
      rw [h13] at t66
      clear h13
      have t18 : a.tmps[18]? = some (.int .i64 sn) := t18
      refine stepY ((wanted_of 13 true 66 _ rfl rfl t66).trans rfl) ?_
      go_simp
      exact hK _ _ jE rfl (fun _ _ _ h => h)
    · refine stepL_of ?_
      rintro F a w1 jE ⟨h14, t67, h15, t68, h13, t66, -⟩ - K hK
      have h14 : (F 14) = .int .i64 sn := h14
      rw [h14] at t67
      clear h14
      have h15 : (F 15) = .int .i64 sn := h15
      rw [h15] at t68
      clear h15
      have h13 : (F 13) = .bool true := h13
      rw [h13] at t66
      clear h13
      refine stepY ((wanted_of 13 true 66 _ rfl rfl t66).trans rfl) ?_
      go_simp
      exact hK _ _ jE rfl (fun _ _ _ h => h)
    · refine stepL_plain rfl ?_
      rintro F a w1 jE ⟨h13, t66, h16, t69, -⟩ - K hK
      have h13 : (F 13) = .bool true := h13
      rw [h13] at t66
      clear h13
      have h16 : (F 16) = .bool true := h16
      rw [h16] at t69
      clear h16
      go_simp
      exact hK _ _ jE rfl (fun _ _ _ h => h)
    · refine stepL_plain rfl ?_
      rintro F a w1 jE ⟨h17, t70, -⟩ - K hK
      have h17 : (F 17) = .bool true := h17
      rw [h17] at t70
      clear h17
      go_simp
      exact hK _ _ jE rfl (fun _ _ _ h => h)
    · refine stepL_of ?_
      rintro F a w1 jE ⟨h18, t71, -⟩ ⟨t16, -⟩ K hK
      have h18 : (F 18) = .bool true := h18
      rw [h18] at t71
      clear h18
      have t16 : a.tmps[16]? = some (.bool a1) := t16
      refine stepY ((wanted_of 18 true 71 _ rfl rfl t71).trans rfl) ?_
      go_simp
      exact hK _ _ jE rfl (fun _ _ _ h => h)
    · refine stepL_of ?_
      rintro F a w1 jE ⟨h18, t71, -⟩ ⟨t19, -⟩ K hK
      have h18 : (F 18) = .bool true := h18
      rw [h18] at t71
      clear h18
      have t19 : a.tmps[19]? = some (.bool a1) := t19
      refine stepY ((wanted_of 18 true 71 _ rfl rfl t71).trans rfl) ?_
      go_simp
      exact hK _ _ jE rfl (fun _ _ _ h => h)
    · refine stepL_of ?_
      rintro F a w1 jE ⟨h19, t72, h20, t73, h18, t71, -⟩ - K hK
      have h19 : (F 19) = .bool a1 := h19
      rw [h19] at t72
      clear h19
      have h20 : (F 20) = .bool a1 := h20
      rw [h20] at t73
      clear h20
      have h18 : (F 18) = .bool true := h18
      rw [h18] at t71
      clear h18
      refine stepY ((wanted_of 18 true 71 _ rfl rfl t71).trans rfl) ?_
      have e1 : (a1 == a1) = true := by simp
      go_simp
      exact hK _ _ jE rfl (fun _ _ _ h => h)
    · refine stepL_plain rfl ?_
      rintro F a w1 jE ⟨h18, t71, h21, t74, -⟩ - K hK
      have h18 : (F 18) = .bool true := h18
      rw [h18] at t71
      clear h18
      have h21 : (F 21) = .bool true := h21
      rw [h21] at t74
      clear h21
      go_simp
      exact hK _ _ jE rfl (fun _ _ _ h => h)
    · refine stepL_plain rfl ?_
      rintro F a w1 jE ⟨h22, t75, -⟩ - K hK
      have h22 : (F 22) = .bool true := h22
      rw [h22] at t75
      clear h22
      go_simp
      exact hK _ _ jE rfl (fun _ _ _ h => h)
    · refine stepL_of ?_
      rintro F a w1 jE ⟨h23, t76, -⟩ ⟨t17, -⟩ K hK
      have h23 : (F 23) = .bool true := h23
      rw [h23] at t76
      clear h23
      have t17 : a.tmps[17]? = some (.bool sb) := t17
      refine stepY ((wanted_of 23 true 76 _ rfl rfl t76).trans rfl) ?_
      go_simp
      exact hK _ _ jE rfl (fun _ _ _ h => h)
    · refine stepL_of ?_
      rintro F a w1 jE ⟨h23, t76, -⟩ ⟨t20, -⟩ K hK
      have h23 : (F 23) = .bool true := h23
      rw [h23] at t76
      clear h23
      have t20 : a.tmps[20]? = some (.bool sb) := t20
      refine stepY ((wanted_of 23 true 76 _ rfl rfl t76).trans rfl) ?_
      go_simp
      exact hK _ _ jE rfl (fun _ _ _ h => h)
    · refine stepL_of ?_
      rintro F a w1 jE ⟨h24, t77, h25, t78, h23, t76, -⟩ - K hK
      have h24 : (F 24) = .bool sb := h24
      rw [h24] at t77
      clear h24
      have h25 : (F 25) = .bool sb := h25
      rw [h25] at t78
      clear h25
      have h23 : (F 23) = .bool true := h23
      rw [h23] at t76
      clear h23
      refine stepY ((wanted_of 23 true 76 _ rfl rfl t76).trans rfl) ?_
      have e1 : (sb == sb) = true := by simp
      go_simp
      exact hK _ _ jE rfl (fun _ _ _ h => h)
    · refine stepL_plain rfl ?_
      rintro F a w1 jE ⟨h23, t76, h26, t79, -⟩ - K hK
      have h23 : (F 23) = .bool true := h23
      rw [h23] at t76
      clear h23
      have h26 : (F 26) = .bool true := h26
      rw [h26] at t79
      clear h26
      go_simp
      exact hK _ _ jE rfl (fun _ _ _ h => h)
    · refine stepL_plain rfl ?_
      rintro F a w1 jE ⟨h27, t80, -⟩ - K hK
      have h27 : (F 27) = .bool true := h27
      rw [h27] at t80
      clear h27
      go_simp
      exact hK _ _ jE rfl (fun _ _ _ h => h)
    · refine stepL_of ?_
      rintro F a w1 jE ⟨h28, t81, -⟩ - K hK
      have h28 : (F 28) = .bool true := h28
      rw [h28] at t81
      clear h28
      refine stepY ((wanted_of 28 true 81 _ rfl rfl t81).trans rfl) ?_
      go_simp
      with_reducible refine (works_any _).mono ?_
      rintro e w2 ⟨rfl, hx⟩
      exact hK _ _ (jE.trans hx) (rfl) (by intro jq hj uq h; have hj : jq ∈ [28] := hj; simp only [List.mem_singleton] at hj; subst hj; exact h)
    · refine stepL_plain rfl ?_
      rintro F a w1 jE ⟨h28, t81, h29, t82, -⟩ - K hK
      have h28 : (F 28) = .bool true := h28
      rw [h28] at t81
      clear h28
      have h29 : (F 29) = .bool true := h29
      rw [h29] at t82
      clear h29
      go_simp
      exact hK _ _ jE rfl (fun _ _ _ h => h)
    · refine stepL_plain rfl ?_
      rintro F a w1 jE ⟨h30, t83, -⟩ - K hK
      have h30 : (F 30) = .bool true := h30
      rw [h30] at t83
      clear h30
      go_simp
      exact hK _ _ jE rfl (fun _ _ _ h => h)
  · rintro F w9 jE ⟨h31, -⟩
    have h31 : (F 31) = .bool true := h31
    have hx := jE.ext (Ext.refl _) (by simp)
    replace E1 := E1.trans hx
    clear jE hx
    simp only [putL, Act.put, Nat.reduceAdd, Nat.zero_add, List.setIfInBounds_toArray, List.set_cons_succ, List.set_cons_zero]
    rw [h31]
    clear h31
    go_wp2_with fail
    go_ret
    exact ⟨rfl, E1⟩
end Go.Proofs.Ytahneblnbafpoaa
