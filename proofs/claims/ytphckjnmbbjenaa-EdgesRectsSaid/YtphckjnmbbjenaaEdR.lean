/- Layer 2: the law on rectangles against the reference (walk). -/
import Derived.Test.YtphckjnmbbjenaaBigK
import Derived.Test.YtphckjnmbbjenaaEdW
namespace Go.Proofs.Ytphckjnmbbjenaa
open Go.RowKit

set_option maxRecDepth 100000 in
set_option maxHeartbeats 16000000 in
theorem law_rects (a b l : Rc) (oa : a.Ok) (ob : b.Ok) (ol : l.Ok) (w : World) :
    Calls Try.prog 4 #[.agg a.cs, .agg b.cs, .agg l.cs] w fun e w' => e = .returned (.bool true) ∧ Ext w w' := by
  have m1 := fun w => hide (meet_any a b oa ob w)
  have m2 := fun w => hide (refmeet_any a b oa ob w)
  have i1 := fun w => hide (inside_any a b oa ob w)
  have i2 := fun w => hide (refinside_any a b oa ob w)
  have z0 : -9223372036854775808 ≤ l.x ∧ l.x ≤ 9223372036854775807 := ⟨ol.x1, ol.x2⟩
  have z1 : -9223372036854775808 ≤ l.y ∧ l.y ≤ 9223372036854775807 := ⟨ol.y1, ol.y2⟩
  have z2 : -9223372036854775808 ≤ l.w ∧ l.w ≤ 9223372036854775807 := ⟨ol.w1, ol.w2⟩
  have z3 : -9223372036854775808 ≤ l.h ∧ l.h ≤ 9223372036854775807 := ⟨ol.h1, ol.h2⟩
  have g1 := fun w => hide (grow_any a oa l.x l.y l.w l.h z0 z1 z2 z3 w)
  have g2 := fun w => hide (refgrow_any a oa l.x l.y l.w l.h z0 z1 z2 z3 w)
  clear z0 z1 z2 z3 oa ob ol
  generalize growR a l.x l.y l.w l.h = r at *
  generalize growB a l.x l.y l.w l.h = gb at *
  generalize meetB a b = mb at *
  generalize insideB a b = ib at *
  obtain ⟨ax, ay, aw, ah⟩ := a
  obtain ⟨bx, bY, bw, bh⟩ := b
  obtain ⟨l0, l1, l2, l3⟩ := l
  obtain ⟨rx, ry, rw, rh⟩ := r
  go_enter Try.func4, Try.ntmps4
  go_wp2_with fail
  have Ba : Blk (((w.alloc (.cells #[.int .i64 ax, .int .i64 ay, .int .i64 aw, .int .i64 ah] 33)).alloc (.cells #[.int .i64 bx, .int .i64 bY, .int .i64 bw, .int .i64 bh] 33)).alloc (.cells #[.int .i64 l0, .int .i64 l1, .int .i64 l2, .int .i64 l3] 24)) w.heap.size 33 #[.int .i64 ax, .int .i64 ay, .int .i64 aw, .int .i64 ah] := ((Blk.new _ _ _).alloc _).alloc _
  have Bb : Blk (((w.alloc (.cells #[.int .i64 ax, .int .i64 ay, .int .i64 aw, .int .i64 ah] 33)).alloc (.cells #[.int .i64 bx, .int .i64 bY, .int .i64 bw, .int .i64 bh] 33)).alloc (.cells #[.int .i64 l0, .int .i64 l1, .int .i64 l2, .int .i64 l3] 24)) (w.heap.size + 1) 33 #[.int .i64 bx, .int .i64 bY, .int .i64 bw, .int .i64 bh] := (Blk.new1 _ _ _ _).alloc _
  have Bl : Blk (((w.alloc (.cells #[.int .i64 ax, .int .i64 ay, .int .i64 aw, .int .i64 ah] 33)).alloc (.cells #[.int .i64 bx, .int .i64 bY, .int .i64 bw, .int .i64 bh] 33)).alloc (.cells #[.int .i64 l0, .int .i64 l1, .int .i64 l2, .int .i64 l3] 24)) (w.heap.size + 2) 24 #[.int .i64 l0, .int .i64 l1, .int .i64 l2, .int .i64 l3] := Blk.new2 _ _ _ _ _
  have E0 : Ext w (((w.alloc (.cells #[.int .i64 ax, .int .i64 ay, .int .i64 aw, .int .i64 ah] 33)).alloc (.cells #[.int .i64 bx, .int .i64 bY, .int .i64 bw, .int .i64 bh] 33)).alloc (.cells #[.int .i64 l0, .int .i64 l1, .int .i64 l2, .int .i64 l3] 24)) := (((Ext.refl _).alloc _).alloc _).alloc _
  generalize (((w.alloc (.cells #[.int .i64 ax, .int .i64 ay, .int .i64 aw, .int .i64 ah] 33)).alloc (.cells #[.int .i64 bx, .int .i64 bY, .int .i64 bw, .int .i64 bh] 33)).alloc (.cells #[.int .i64 l0, .int .i64 l1, .int .i64 l2, .int .i64 l3] 24)) = wa at *
  generalize hga : w.heap.size = ga at *
  have HGA := hide hga
  clear hga
  have Bac := Ba.cell
  have Bal := Ba.lt
  have Bbc := Bb.cell
  have Bbl := Bb.lt
  have Blc := Bl.cell
  have Bll := Bl.lt
  go_wp2_with fail
  with_reducible refine (unhide (g1 _)).mono ?_
  rintro e w1 ⟨rfl, hx⟩
  have B1 := Ba.ext hx
  have B2 := Bb.ext hx
  have B3 := Bl.ext hx
  have E4 := E0.trans hx
  clear Bac Bal Bbc Bbl Blc Bll
  clear Ba Bb Bl E0 hx
  have Bac := B1.cell
  have Bal := B1.lt
  have Bbc := B2.cell
  have Bbl := B2.lt
  have Blc := B3.cell
  have Bll := B3.lt
  go_wp2_with fail
  have Br : Blk (w1.alloc (.cells #[.int .i64 rx, .int .i64 ry, .int .i64 rw, .int .i64 rh] 33)) w1.heap.size 33 #[.int .i64 rx, .int .i64 ry, .int .i64 rw, .int .i64 rh] := Blk.new _ _ _
  have hx : Ext w1 (w1.alloc (.cells #[.int .i64 rx, .int .i64 ry, .int .i64 rw, .int .i64 rh] 33)) := (Ext.refl _).alloc _
  generalize hgBr : w1.heap.size = gr at *
  have HGBr := hide hgBr
  clear hgBr
  generalize w1.alloc (.cells #[.int .i64 rx, .int .i64 ry, .int .i64 rw, .int .i64 rh] 33) = w2 at *
  have B5 := B1.ext hx
  have B6 := B2.ext hx
  have B7 := B3.ext hx
  have E8 := E4.trans hx
  clear Bac Bal Bbc Bbl Blc Bll
  clear B1 B2 B3 E4 hx
  have Bac := B5.cell
  have Bal := B5.lt
  have Bbc := B6.cell
  have Bbl := B6.lt
  have Blc := B7.cell
  have Bll := B7.lt
  have Brc := Br.cell
  have Brl := Br.lt
  go_wp2_with fail
  with_reducible refine (unhide (g2 _)).mono ?_
  rintro e w3 ⟨rfl, hx⟩
  have B9 := B5.ext hx
  have B10 := B6.ext hx
  have B11 := B7.ext hx
  have B12 := Br.ext hx
  have E13 := E8.trans hx
  clear Bac Bal Bbc Bbl Blc Bll Brc Brl
  clear B5 B6 B7 Br E8 hx
  have Bac := B9.cell
  have Bal := B9.lt
  have Bbc := B10.cell
  have Bbl := B10.lt
  have Blc := B11.cell
  have Bll := B11.lt
  have Brc := B12.cell
  have Brl := B12.lt
  go_upto_region 3 with fail
  have Bs : Blk (w3.alloc (.cells #[.int .i64 rx, .int .i64 ry, .int .i64 rw, .int .i64 rh] 33)) w3.heap.size 33 #[.int .i64 rx, .int .i64 ry, .int .i64 rw, .int .i64 rh] := Blk.new _ _ _
  have hx : Ext w3 (w3.alloc (.cells #[.int .i64 rx, .int .i64 ry, .int .i64 rw, .int .i64 rh] 33)) := (Ext.refl _).alloc _
  generalize hgBs : w3.heap.size = gs at *
  have HGBs := hide hgBs
  clear hgBs
  generalize w3.alloc (.cells #[.int .i64 rx, .int .i64 ry, .int .i64 rw, .int .i64 rh] 33) = w4 at *
  have B14 := B9.ext hx
  have B15 := B10.ext hx
  have B16 := B11.ext hx
  have B17 := B12.ext hx
  have E18 := E13.trans hx
  clear Bac Bal Bbc Bbl Blc Bll Brc Brl
  clear B9 B10 B11 B12 E13 hx
  have Bac := B14.cell
  have Bal := B14.lt
  have Bbc := B15.cell
  have Bbl := B15.lt
  have Blc := B16.cell
  have Bll := B16.lt
  have Brc := B17.cell
  have Brl := B17.lt
  have Bsc := Bs.cell
  have Bsl := Bs.lt
  clear Bac Bal Bbc Bbl Blc Bll Brc Brl Bsc Bsl
  refine wp_region_lin (by kernel_rfl) (fun w' => (ExtX w4 w' [])) (fun ii vv ww => match ii with | 0 => vv = (.agg #[.int .i64 rx, .int .i64 ry, .int .i64 rw, .int .i64 rh]) | 1 => vv = (.agg #[.int .i64 rx, .int .i64 ry, .int .i64 rw, .int .i64 rh]) | 2 => vv = .bool true | 3 => vv = .bool true | 4 => vv = .bool gb | 5 => vv = .bool gb | 6 => vv = .bool true | 7 => vv = .bool true | 8 => vv = .bool true | 9 => vv = (.agg #[.int .i64 ax, .int .i64 ay, .int .i64 aw, .int .i64 ah]) | 10 => vv = (.agg #[.int .i64 bx, .int .i64 bY, .int .i64 bw, .int .i64 bh]) | 11 => vv = .bool mb | 12 => vv = (.agg #[.int .i64 ax, .int .i64 ay, .int .i64 aw, .int .i64 ah]) | 13 => vv = (.agg #[.int .i64 bx, .int .i64 bY, .int .i64 bw, .int .i64 bh]) | 14 => vv = .bool mb | 15 => vv = .bool true | 16 => vv = .bool true | 17 => vv = .bool true | 18 => vv = (.agg #[.int .i64 ax, .int .i64 ay, .int .i64 aw, .int .i64 ah]) | 19 => vv = (.agg #[.int .i64 bx, .int .i64 bY, .int .i64 bw, .int .i64 bh]) | 20 => vv = .bool ib | 21 => vv = (.agg #[.int .i64 ax, .int .i64 ay, .int .i64 aw, .int .i64 ah]) | 22 => vv = (.agg #[.int .i64 bx, .int .i64 bY, .int .i64 bw, .int .i64 bh]) | 23 => vv = .bool ib | 24 => vv = .bool true | 25 => vv = .bool true | 26 => vv = .bool true | 27 => vv = .bool true | 28 => vv = .bool true | 29 => vv = .bool true | _ => True) (fun ii => match ii with | 2 => [(0, 23), (1, 24)] | 3 => [(2, 25)] | 4 => [(3, 26)] | 5 => [(3, 26)] | 6 => [(4, 27), (5, 28), (3, 26)] | 7 => [(3, 26), (6, 29)] | 8 => [(7, 30)] | 9 => [(8, 31)] | 10 => [(8, 31)] | 11 => [(9, 32), (10, 33), (8, 31)] | 12 => [(8, 31)] | 13 => [(8, 31)] | 14 => [(12, 35), (13, 36), (8, 31)] | 15 => [(11, 34), (14, 37), (8, 31)] | 16 => [(8, 31), (15, 38)] | 17 => [(16, 39)] | 18 => [(17, 40)] | 19 => [(17, 40)] | 20 => [(18, 41), (19, 42), (17, 40)] | 21 => [(17, 40)] | 22 => [(17, 40)] | 23 => [(21, 44), (22, 45), (17, 40)] | 24 => [(20, 43), (23, 46), (17, 40)] | 25 => [(17, 40), (24, 47)] | 26 => [(25, 48)] | 27 => [(26, 49)] | 28 => [(26, 49), (27, 50)] | 29 => [(28, 51)] | _ => []) (fun ii => match ii with | 0 => [7] | 1 => [9] | 4 => [8] | 5 => [10] | 9 => [3] | 10 => [4] | 12 => [3] | 13 => [4] | 18 => [3] | 19 => [4] | 21 => [3] | 22 => [4] | _ => []) (fun ii => match ii with | 0 => [1] | 1 => [0] | 4 => [3, 5] | 5 => [3, 4] | 6 => [3] | 9 => [8, 10, 12, 13] | 10 => [8, 9, 12, 13] | 11 => [8, 12, 13] | 12 => [8, 9, 10, 13, 11] | 13 => [8, 9, 10, 12, 11] | 14 => [11, 8] | 15 => [8] | 18 => [17, 19, 21, 22] | 19 => [17, 18, 21, 22] | 20 => [17, 21, 22] | 21 => [17, 18, 19, 22, 20] | 22 => [17, 18, 19, 21, 20] | 23 => [20, 17] | 24 => [17] | 27 => [26] | _ => []) [29] [0, 0, 3, 7, 15, 15, 63, 127, 255, 511, 511, 2047, 511, 511, 16383, 32767, 65535, 131071, 262143, 262143, 1048575, 262143, 262143, 8388607, 16777215, 33554431, 67108863, 134217727, 268435455, 536870911] 52 rfl (by kernel_rfl) (ExtX.start _ _) ?_ ?_
  · rename_i hcont; clear hcont
    refine ⟨?_, ?_, ?_, ?_, ?_, ?_, ?_, ?_, ?_, ?_, ?_, ?_, ?_, ?_, ?_, ?_, ?_, ?_, ?_, ?_, ?_, ?_, ?_, ?_, ?_, ?_, ?_, ?_, ?_, ?_, trivial⟩
    · refine stepL_plain rfl ?_
      rintro F a w1 jE - ⟨t7, -⟩ K hK
      have t7 : a.tmps[7]? = some (.pointer (some ⟨gr, 0, none⟩)) := t7
      have c := (jE.blk B17 (by simp)).cell
      go_simp
      exact hK _ _ jE rfl (fun _ _ _ h => h)
    · refine stepL_plain rfl ?_
      rintro F a w1 jE - ⟨t9, -⟩ K hK
      have t9 : a.tmps[9]? = some (.pointer (some ⟨gs, 0, none⟩)) := t9
      have c := (jE.blk Bs (by simp)).cell
      go_simp
      exact hK _ _ jE rfl (fun _ _ _ h => h)
    · refine stepL_plain rfl ?_
      rintro F a w1 jE ⟨h0, t23, h1, t24, -⟩ - K hK
      have h0 : (F 0) = (.agg #[.int .i64 rx, .int .i64 ry, .int .i64 rw, .int .i64 rh]) := h0
      rw [h0] at t23
      clear h0
      have h1 : (F 1) = (.agg #[.int .i64 rx, .int .i64 ry, .int .i64 rw, .int .i64 rh]) := h1
      rw [h1] at t24
      clear h1
      go_simp
      exact hK _ _ jE rfl (fun _ _ _ h => h)
    · refine stepL_plain rfl ?_
      rintro F a w1 jE ⟨h2, t25, -⟩ - K hK
      have h2 : (F 2) = .bool true := h2
      rw [h2] at t25
      clear h2
      go_simp
      exact hK _ _ jE rfl (fun _ _ _ h => h)
    · refine stepL_of ?_
      rintro F a w1 jE ⟨h3, t26, -⟩ ⟨t8, -⟩ K hK
      have h3 : (F 3) = .bool true := h3
      rw [h3] at t26
      clear h3
      have t8 : a.tmps[8]? = some (.bool gb) := t8
      refine stepY ((wanted_of 3 true 26 _ rfl rfl t26).trans rfl) ?_
      go_simp
      exact hK _ _ jE rfl (fun _ _ _ h => h)
    · refine stepL_of ?_
      rintro F a w1 jE ⟨h3, t26, -⟩ ⟨t10, -⟩ K hK
      have h3 : (F 3) = .bool true := h3
      rw [h3] at t26
      clear h3
      have t10 : a.tmps[10]? = some (.bool gb) := t10
      refine stepY ((wanted_of 3 true 26 _ rfl rfl t26).trans rfl) ?_
      go_simp
      exact hK _ _ jE rfl (fun _ _ _ h => h)
    · refine stepL_of ?_
      rintro F a w1 jE ⟨h4, t27, h5, t28, h3, t26, -⟩ - K hK
      have h4 : (F 4) = .bool gb := h4
      rw [h4] at t27
      clear h4
      have h5 : (F 5) = .bool gb := h5
      rw [h5] at t28
      clear h5
      have h3 : (F 3) = .bool true := h3
      rw [h3] at t26
      clear h3
      refine stepY ((wanted_of 3 true 26 _ rfl rfl t26).trans rfl) ?_
      have e1 : (gb == gb) = true := by simp
      go_simp
      exact hK _ _ jE rfl (fun _ _ _ h => h)
    · refine stepL_plain rfl ?_
      rintro F a w1 jE ⟨h3, t26, h6, t29, -⟩ - K hK
      have h3 : (F 3) = .bool true := h3
      rw [h3] at t26
      clear h3
      have h6 : (F 6) = .bool true := h6
      rw [h6] at t29
      clear h6
      go_simp
      exact hK _ _ jE rfl (fun _ _ _ h => h)
    · refine stepL_plain rfl ?_
      rintro F a w1 jE ⟨h7, t30, -⟩ - K hK
      have h7 : (F 7) = .bool true := h7
      rw [h7] at t30
      clear h7
      go_simp
      exact hK _ _ jE rfl (fun _ _ _ h => h)
    · refine stepL_of ?_
      rintro F a w1 jE ⟨h8, t31, -⟩ ⟨t3, -⟩ K hK
      have h8 : (F 8) = .bool true := h8
      rw [h8] at t31
      clear h8
      have t3 : a.tmps[3]? = some (.pointer (some ⟨ga, 0, none⟩)) := t3
      refine stepY ((wanted_of 8 true 31 _ rfl rfl t31).trans rfl) ?_
      have c := (jE.blk B14 (by simp)).cell
      go_simp
      exact hK _ _ jE rfl (fun _ _ _ h => h)
    · refine stepL_of ?_
      rintro F a w1 jE ⟨h8, t31, -⟩ ⟨t4, -⟩ K hK
      have h8 : (F 8) = .bool true := h8
      rw [h8] at t31
      clear h8
      have t4 : a.tmps[4]? = some (.pointer (some ⟨(ga + 1), 0, none⟩)) := t4
      refine stepY ((wanted_of 8 true 31 _ rfl rfl t31).trans rfl) ?_
      have c := (jE.blk B15 (by simp)).cell
      go_simp
      exact hK _ _ jE rfl (fun _ _ _ h => h)
    · refine stepL_of ?_
      rintro F a w1 jE ⟨h9, t32, h10, t33, h8, t31, -⟩ - K hK
      have h9 : (F 9) = (.agg #[.int .i64 ax, .int .i64 ay, .int .i64 aw, .int .i64 ah]) := h9
      rw [h9] at t32
      clear h9
      have h10 : (F 10) = (.agg #[.int .i64 bx, .int .i64 bY, .int .i64 bw, .int .i64 bh]) := h10
      rw [h10] at t33
      clear h10
      have h8 : (F 8) = .bool true := h8
      rw [h8] at t31
      clear h8
      refine stepY ((wanted_of 8 true 31 _ rfl rfl t31).trans rfl) ?_
      go_simp
      with_reducible refine (unhide (m1 _)).mono ?_
      rintro e w2 ⟨rfl, hx⟩
      exact hK _ _ (jE.trans hx) (rfl) (by intro jq hj uq h; have hj : jq ∈ [8, 12, 13] := hj; simp only [List.mem_cons, List.not_mem_nil, or_false] at hj; rcases hj with rfl | rfl | rfl; exact h; exact h; exact h)
    · refine stepL_of ?_
      rintro F a w1 jE ⟨h8, t31, -⟩ ⟨t3, -⟩ K hK
      have h8 : (F 8) = .bool true := h8
      rw [h8] at t31
      clear h8
      have t3 : a.tmps[3]? = some (.pointer (some ⟨ga, 0, none⟩)) := t3
      refine stepY ((wanted_of 8 true 31 _ rfl rfl t31).trans rfl) ?_
      have c := (jE.blk B14 (by simp)).cell
      go_simp
      exact hK _ _ jE rfl (fun _ _ _ h => h)
    · refine stepL_of ?_
      rintro F a w1 jE ⟨h8, t31, -⟩ ⟨t4, -⟩ K hK
      have h8 : (F 8) = .bool true := h8
      rw [h8] at t31
      clear h8
      have t4 : a.tmps[4]? = some (.pointer (some ⟨(ga + 1), 0, none⟩)) := t4
      refine stepY ((wanted_of 8 true 31 _ rfl rfl t31).trans rfl) ?_
      have c := (jE.blk B15 (by simp)).cell
      go_simp
      exact hK _ _ jE rfl (fun _ _ _ h => h)
    · refine stepL_of ?_
      rintro F a w1 jE ⟨h12, t35, h13, t36, h8, t31, -⟩ - K hK
      have h12 : (F 12) = (.agg #[.int .i64 ax, .int .i64 ay, .int .i64 aw, .int .i64 ah]) := h12
      rw [h12] at t35
      clear h12
      have h13 : (F 13) = (.agg #[.int .i64 bx, .int .i64 bY, .int .i64 bw, .int .i64 bh]) := h13
      rw [h13] at t36
      clear h13
      have h8 : (F 8) = .bool true := h8
      rw [h8] at t31
      clear h8
      refine stepY ((wanted_of 8 true 31 _ rfl rfl t31).trans rfl) ?_
      go_simp
      with_reducible refine (unhide (m2 _)).mono ?_
      rintro e w2 ⟨rfl, hx⟩
      exact hK _ _ (jE.trans hx) (rfl) (by intro jq hj uq h; have hj : jq ∈ [11, 8] := hj; simp only [List.mem_cons, List.not_mem_nil, or_false] at hj; rcases hj with rfl | rfl; exact h; exact h)
    · refine stepL_of ?_
      rintro F a w1 jE ⟨h11, t34, h14, t37, h8, t31, -⟩ - K hK
      have h11 : (F 11) = .bool mb := h11
      rw [h11] at t34
      clear h11
      have h14 : (F 14) = .bool mb := h14
      rw [h14] at t37
      clear h14
      have h8 : (F 8) = .bool true := h8
      rw [h8] at t31
      clear h8
      refine stepY ((wanted_of 8 true 31 _ rfl rfl t31).trans rfl) ?_
      have e1 : (mb == mb) = true := by simp
      go_simp
      exact hK _ _ jE rfl (fun _ _ _ h => h)
    · refine stepL_plain rfl ?_
      rintro F a w1 jE ⟨h8, t31, h15, t38, -⟩ - K hK
      have h8 : (F 8) = .bool true := h8
      rw [h8] at t31
      clear h8
      have h15 : (F 15) = .bool true := h15
      rw [h15] at t38
      clear h15
      go_simp
      exact hK _ _ jE rfl (fun _ _ _ h => h)
    · refine stepL_plain rfl ?_
      rintro F a w1 jE ⟨h16, t39, -⟩ - K hK
      have h16 : (F 16) = .bool true := h16
      rw [h16] at t39
      clear h16
      go_simp
      exact hK _ _ jE rfl (fun _ _ _ h => h)
    · refine stepL_of ?_
      rintro F a w1 jE ⟨h17, t40, -⟩ ⟨t3, -⟩ K hK
      have h17 : (F 17) = .bool true := h17
      rw [h17] at t40
      clear h17
      have t3 : a.tmps[3]? = some (.pointer (some ⟨ga, 0, none⟩)) := t3
      refine stepY ((wanted_of 17 true 40 _ rfl rfl t40).trans rfl) ?_
      have c := (jE.blk B14 (by simp)).cell
      go_simp
      exact hK _ _ jE rfl (fun _ _ _ h => h)
    · refine stepL_of ?_
      rintro F a w1 jE ⟨h17, t40, -⟩ ⟨t4, -⟩ K hK
      have h17 : (F 17) = .bool true := h17
      rw [h17] at t40
      clear h17
      have t4 : a.tmps[4]? = some (.pointer (some ⟨(ga + 1), 0, none⟩)) := t4
      refine stepY ((wanted_of 17 true 40 _ rfl rfl t40).trans rfl) ?_
      have c := (jE.blk B15 (by simp)).cell
      go_simp
      exact hK _ _ jE rfl (fun _ _ _ h => h)
    · refine stepL_of ?_
      rintro F a w1 jE ⟨h18, t41, h19, t42, h17, t40, -⟩ - K hK
      have h18 : (F 18) = (.agg #[.int .i64 ax, .int .i64 ay, .int .i64 aw, .int .i64 ah]) := h18
      rw [h18] at t41
      clear h18
      have h19 : (F 19) = (.agg #[.int .i64 bx, .int .i64 bY, .int .i64 bw, .int .i64 bh]) := h19
      rw [h19] at t42
      clear h19
      have h17 : (F 17) = .bool true := h17
      rw [h17] at t40
      clear h17
      refine stepY ((wanted_of 17 true 40 _ rfl rfl t40).trans rfl) ?_
      go_simp
      with_reducible refine (unhide (i1 _)).mono ?_
      rintro e w2 ⟨rfl, hx⟩
      exact hK _ _ (jE.trans hx) (rfl) (by intro jq hj uq h; have hj : jq ∈ [17, 21, 22] := hj; simp only [List.mem_cons, List.not_mem_nil, or_false] at hj; rcases hj with rfl | rfl | rfl; exact h; exact h; exact h)
    · refine stepL_of ?_
      rintro F a w1 jE ⟨h17, t40, -⟩ ⟨t3, -⟩ K hK
      have h17 : (F 17) = .bool true := h17
      rw [h17] at t40
      clear h17
      have t3 : a.tmps[3]? = some (.pointer (some ⟨ga, 0, none⟩)) := t3
      refine stepY ((wanted_of 17 true 40 _ rfl rfl t40).trans rfl) ?_
      have c := (jE.blk B14 (by simp)).cell
      go_simp
      exact hK _ _ jE rfl (fun _ _ _ h => h)
    · refine stepL_of ?_
      rintro F a w1 jE ⟨h17, t40, -⟩ ⟨t4, -⟩ K hK
      have h17 : (F 17) = .bool true := h17
      rw [h17] at t40
      clear h17
      have t4 : a.tmps[4]? = some (.pointer (some ⟨(ga + 1), 0, none⟩)) := t4
      refine stepY ((wanted_of 17 true 40 _ rfl rfl t40).trans rfl) ?_
      have c := (jE.blk B15 (by simp)).cell
      go_simp
      exact hK _ _ jE rfl (fun _ _ _ h => h)
    · refine stepL_of ?_
      rintro F a w1 jE ⟨h21, t44, h22, t45, h17, t40, -⟩ - K hK
      have h21 : (F 21) = (.agg #[.int .i64 ax, .int .i64 ay, .int .i64 aw, .int .i64 ah]) := h21
      rw [h21] at t44
      clear h21
      have h22 : (F 22) = (.agg #[.int .i64 bx, .int .i64 bY, .int .i64 bw, .int .i64 bh]) := h22
      rw [h22] at t45
      clear h22
      have h17 : (F 17) = .bool true := h17
      rw [h17] at t40
      clear h17
      refine stepY ((wanted_of 17 true 40 _ rfl rfl t40).trans rfl) ?_
      go_simp
      with_reducible refine (unhide (i2 _)).mono ?_
      rintro e w2 ⟨rfl, hx⟩
      exact hK _ _ (jE.trans hx) (rfl) (by intro jq hj uq h; have hj : jq ∈ [20, 17] := hj; simp only [List.mem_cons, List.not_mem_nil, or_false] at hj; rcases hj with rfl | rfl; exact h; exact h)
    · refine stepL_of ?_
      rintro F a w1 jE ⟨h20, t43, h23, t46, h17, t40, -⟩ - K hK
      have h20 : (F 20) = .bool ib := h20
      rw [h20] at t43
      clear h20
      have h23 : (F 23) = .bool ib := h23
      rw [h23] at t46
      clear h23
      have h17 : (F 17) = .bool true := h17
      rw [h17] at t40
      clear h17
      refine stepY ((wanted_of 17 true 40 _ rfl rfl t40).trans rfl) ?_
      have e1 : (ib == ib) = true := by simp
      go_simp
      exact hK _ _ jE rfl (fun _ _ _ h => h)
    · refine stepL_plain rfl ?_
      rintro F a w1 jE ⟨h17, t40, h24, t47, -⟩ - K hK
      have h17 : (F 17) = .bool true := h17
      rw [h17] at t40
      clear h17
      have h24 : (F 24) = .bool true := h24
      rw [h24] at t47
      clear h24
      go_simp
      exact hK _ _ jE rfl (fun _ _ _ h => h)
    · refine stepL_plain rfl ?_
      rintro F a w1 jE ⟨h25, t48, -⟩ - K hK
      have h25 : (F 25) = .bool true := h25
      rw [h25] at t48
      clear h25
      go_simp
      exact hK _ _ jE rfl (fun _ _ _ h => h)
    · refine stepL_of ?_
      rintro F a w1 jE ⟨h26, t49, -⟩ - K hK
      have h26 : (F 26) = .bool true := h26
      rw [h26] at t49
      clear h26
      refine stepY ((wanted_of 26 true 49 _ rfl rfl t49).trans rfl) ?_
      go_simp
      with_reducible refine (works_any _).mono ?_
      rintro e w2 ⟨rfl, hx⟩
      exact hK _ _ (jE.trans hx) (rfl) (by intro jq hj uq h; have hj : jq ∈ [26] := hj; simp only [List.mem_singleton] at hj; subst hj; exact h)
    · refine stepL_plain rfl ?_
      rintro F a w1 jE ⟨h26, t49, h27, t50, -⟩ - K hK
      have h26 : (F 26) = .bool true := h26
      rw [h26] at t49
      clear h26
      have h27 : (F 27) = .bool true := h27
      rw [h27] at t50
      clear h27
      go_simp
      exact hK _ _ jE rfl (fun _ _ _ h => h)
    · refine stepL_plain rfl ?_
      rintro F a w1 jE ⟨h28, t51, -⟩ - K hK
      have h28 : (F 28) = .bool true := h28
      rw [h28] at t51
      clear h28
      go_simp
      exact hK _ _ jE rfl (fun _ _ _ h => h)
  · rintro F w9 jE ⟨h29, -⟩
    have h29 : (F 29) = .bool true := h29
    have hx := jE.ext (Ext.refl _) (by simp)
    have E9 := E18.trans hx
    clear jE hx g1 g2 m1 m2 i1 i2
    simp only [putL, Act.put, Nat.reduceAdd, Nat.zero_add, List.setIfInBounds_toArray, List.set_cons_succ, List.set_cons_zero]
    rw [h29]
    clear h29
    go_wp2_with fail
    go_ret
    exact ⟨rfl, E9⟩
end Go.Proofs.Ytphckjnmbbjenaa
