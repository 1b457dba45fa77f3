/- Layer 2: a rectangle that grows (walk). -/
import Derived.Test.YtphckjnmbbjenaaEdM
import Derived.Test.YtphckjnmbbjenaaLinA
namespace Go.Proofs.Ytphckjnmbbjenaa
open Go.RowKit
theorem i64_info : (Try.prog.info? 2).map (fun i => (i.zero, i.size, i.bytes)) = some (some (.int .i64 0), 1, 8) := by kernel_rfl
theorem lessL_len (n : Int) : (lessL n).length ≤ 2 := by unfold lessL; split <;> simp
theorem lessL_sum (n : Int) (l : List Int) : lsum (lessL n ++ l) = lsum l - n := by unfold lessL; split <;> simp [lsum] <;> omega
theorem lessL_ok {n : Int} {l : List Int} (h1 : -9223372036854775808 ≤ n) (h2 : n ≤ 9223372036854775807) (h : I64s l) : I64s (lessL n ++ l) := by
  unfold lessL I64s at *
  intro z hz
  split at hz
  · simp only [List.mem_append, List.mem_cons, List.not_mem_nil, or_false] at hz
    rcases hz with (rfl | rfl) | hz
    · omega
    · omega
    · exact h z hz
  · simp only [List.mem_append, List.mem_cons, List.not_mem_nil, or_false] at hz
    rcases hz with rfl | hz
    · omega
    · exact h z hz
theorem eq_bool4 (p q r s : Bool) (w : World) : (Op.equalIn 10000 49 (.agg #[.bool p, .bool q, .bool r, .bool s]) (.agg #[.bool false, .bool false, .bool false, .bool false])).run Try.prog w = .ok (!(p || q || r || s)) w := by
  cases p <;> cases q <;> cases r <;> cases s <;> kernel_rfl
/-- a rectangle that goes farther by so much on each side -/
def growR (r : Rc) (l0 l1 l2 l3 : Int) : Rc := ⟨cutV (r.x - l3), cutV (r.y - l0), cutV (r.w + l3 + l1), cutV (r.h + l0 + l2)⟩
def growB (r : Rc) (l0 l1 l2 l3 : Int) : Bool := cutB (r.x - l3) || cutB (r.y - l0) || cutB (r.w + l3 + l1) || cutB (r.h + l0 + l2)
set_option maxRecDepth 100000 in
set_option maxHeartbeats 8000000 in
theorem grow_any (r : Rc) (hr : r.Ok) (l0 l1 l2 l3 : Int) (z0 : -9223372036854775808 ≤ l0 ∧ l0 ≤ 9223372036854775807) (z1 : -9223372036854775808 ≤ l1 ∧ l1 ≤ 9223372036854775807) (z2 : -9223372036854775808 ≤ l2 ∧ l2 ≤ 9223372036854775807) (z3 : -9223372036854775808 ≤ l3 ∧ l3 ≤ 9223372036854775807) (w : World) :
    Calls Try.prog 15 #[.agg r.cs, .agg #[.int .i64 l0, .int .i64 l1, .int .i64 l2, .int .i64 l3]] w fun e w' => e = .returned (.tuple #[.agg (growR r l0 l1 l2 l3).cs, .bool (growB r l0 l1 l2 l3)]) ∧ Ext w w' := by
  obtain ⟨x, y, p, q⟩ := r
  obtain ⟨a1, a2, a3, a4, a5, a6, a7, a8⟩ := hr
  simp only at a1 a2 a3 a4 a5 a6 a7 a8
  obtain ⟨h0, h0'⟩ := z0
  obtain ⟨h1, h1'⟩ := z1
  obtain ⟨h2, h2'⟩ := z2
  obtain ⟨h3, h3'⟩ := z3
  have c0 := fun A c w1 (h : Rd w1 1 A ((lessL l3).length + 1) (ints (lessL l3 ++ [x]))) => au_sum A _ c _ w1 h (lessL_ok h3 h3' (l := [x]) (by unfold I64s; simp; omega)) (by have := lessL_len l3; omega)
  have c1 := fun A c w1 (h : Rd w1 1 A ((lessL l0).length + 1) (ints (lessL l0 ++ [y]))) => au_sum A _ c _ w1 h (lessL_ok h0 h0' (l := [y]) (by unfold I64s; simp; omega)) (by have := lessL_len l0; omega)
  have c2 := fun g w1 (h : Blk w1 g 2 #[.int .i64 p, .int .i64 l3, .int .i64 l1]) => hide (au_sum _ 3 3 [p, l3, l1] w1 (h.rd rfl) (by unfold I64s; simp; omega) (by omega))
  have c3 := fun g w1 (h : Blk w1 g 2 #[.int .i64 q, .int .i64 l0, .int .i64 l2]) => hide (au_sum _ 3 3 [q, l0, l2] w1 (h.rd rfl) (by unfold I64s; simp; omega) (by omega))
  have s0 : lsum (lessL l3 ++ [x]) = x - l3 := by rw [lessL_sum]; simp [lsum]
  have s1 : lsum (lessL l0 ++ [y]) = y - l0 := by rw [lessL_sum]; simp [lsum]
  have s2 : lsum [p, l3, l1] = p + l3 + l1 := by simp [lsum]; omega
  have s3 : lsum [q, l0, l2] = q + l0 + l2 := by simp [lsum]; omega
  rw [s0] at c0
  rw [s1] at c1
  rw [s2] at c2
  rw [s3] at c3
  have eR : growR ⟨x, y, p, q⟩ l0 l1 l2 l3 = ⟨cutV (x - l3), cutV (y - l0), cutV (p + l3 + l1), cutV (q + l0 + l2)⟩ := rfl
  have eB : growB ⟨x, y, p, q⟩ l0 l1 l2 l3 = (cutB (x - l3) || cutB (y - l0) || cutB (p + l3 + l1) || cutB (q + l0 + l2)) := rfl
  rw [eR, eB]
  clear eR eB s0 s1 s2 s3
  generalize cutV (x - l3) = X0 at *
  generalize cutV (y - l0) = X1 at *
  generalize cutV (p + l3 + l1) = X2 at *
  generalize cutV (q + l0 + l2) = X3 at *
  generalize cutB (x - l3) = b0 at *
  generalize cutB (y - l0) = b1 at *
  generalize cutB (p + l3 + l1) = b2 at *
  generalize cutB (q + l0 + l2) = b3 at *
  go_enter Try.func15, Try.ntmps15
  go_wp2_with fail
  obtain ⟨W0, hW0⟩ : ∃ W0 : World, W0 = (((((w.alloc (.cells #[.int .i64 x, .int .i64 y, .int .i64 p, .int .i64 q] 33)).alloc (.cells #[.int .i64 l0, .int .i64 l1, .int .i64 l2, .int .i64 l3] 24)).alloc (.cells #[.int .i64 0, .int .i64 0, .int .i64 0, .int .i64 0] 33)).alloc (.cells #[.int .i64 0, .int .i64 0, .int .i64 0, .int .i64 0] 33)).alloc (.cells #[.bool false, .bool false, .bool false, .bool false] 49)) := ⟨_, rfl⟩
  rw [← hW0]
  have hP : Blk W0 w.heap.size 33 #[.int .i64 x, .int .i64 y, .int .i64 p, .int .i64 q] := by
    rw [hW0]
    have h := Blk.new w 33 #[.int .i64 x, .int .i64 y, .int .i64 p, .int .i64 q]
    try simp only [World.size_alloc] at h
    exact ((((h.alloc _).alloc _).alloc _).alloc _)
  have hY : Blk W0 (w.heap.size + 1) 24 #[.int .i64 l0, .int .i64 l1, .int .i64 l2, .int .i64 l3] := by
    rw [hW0]
    have h := Blk.new (w.alloc (.cells #[.int .i64 x, .int .i64 y, .int .i64 p, .int .i64 q] 33)) 24 #[.int .i64 l0, .int .i64 l1, .int .i64 l2, .int .i64 l3]
    try simp only [World.size_alloc] at h
    exact (((h.alloc _).alloc _).alloc _)
  have hO : Blk W0 (w.heap.size + 2) 33 #[.int .i64 0, .int .i64 0, .int .i64 0, .int .i64 0] := by
    rw [hW0]
    have h := Blk.new ((w.alloc (.cells #[.int .i64 x, .int .i64 y, .int .i64 p, .int .i64 q] 33)).alloc (.cells #[.int .i64 l0, .int .i64 l1, .int .i64 l2, .int .i64 l3] 24)) 33 #[.int .i64 0, .int .i64 0, .int .i64 0, .int .i64 0]
    try simp only [World.size_alloc] at h
    exact ((h.alloc _).alloc _)
  have hU : Blk W0 (w.heap.size + 3) 33 #[.int .i64 0, .int .i64 0, .int .i64 0, .int .i64 0] := by
    rw [hW0]
    have h := Blk.new (((w.alloc (.cells #[.int .i64 x, .int .i64 y, .int .i64 p, .int .i64 q] 33)).alloc (.cells #[.int .i64 l0, .int .i64 l1, .int .i64 l2, .int .i64 l3] 24)).alloc (.cells #[.int .i64 0, .int .i64 0, .int .i64 0, .int .i64 0] 33)) 33 #[.int .i64 0, .int .i64 0, .int .i64 0, .int .i64 0]
    try simp only [World.size_alloc] at h
    exact (h.alloc _)
  have hV : Blk W0 (w.heap.size + 4) 49 #[.bool false, .bool false, .bool false, .bool false] := by
    rw [hW0]
    have h := Blk.new ((((w.alloc (.cells #[.int .i64 x, .int .i64 y, .int .i64 p, .int .i64 q] 33)).alloc (.cells #[.int .i64 l0, .int .i64 l1, .int .i64 l2, .int .i64 l3] 24)).alloc (.cells #[.int .i64 0, .int .i64 0, .int .i64 0, .int .i64 0] 33)).alloc (.cells #[.int .i64 0, .int .i64 0, .int .i64 0, .int .i64 0] 33)) 49 #[.bool false, .bool false, .bool false, .bool false]
    try simp only [World.size_alloc] at h
    exact h
  have E0 : Ext w W0 := by rw [hW0]; exact (((((Ext.refl _).alloc _).alloc _).alloc _).alloc _).alloc _
  clear hW0
  have zV := hV.lt
  refine wp_region_lin (by kernel_rfl) (fun w' => (ExtX W0 w' [(w.heap.size + 3), (w.heap.size + 4)]) ∧ (∃ Z, Blk w' (w.heap.size + 3) 33 #[.int .i64 Z, .int .i64 0, .int .i64 0, .int .i64 0]) ∧ (∃ z, Blk w' (w.heap.size + 4) 49 #[.bool z, .bool false, .bool false, .bool false])) (fun i vv ww => match i with | 0 => vv = .pointer (some ⟨(w.heap.size + 1), 3, none⟩) | 1 => vv = .int .i64 l3 | 2 => ∃ g, W0.heap.size ≤ g ∧ vv = .slice (some ⟨g, 0, none⟩) (lessL l3).length (lessL l3).length ∧ Blk ww g 2 (ints (lessL l3)).toArray | 3 => vv = .pointer (some ⟨w.heap.size, 0, none⟩) | 4 => vv = .int .i64 x | 5 => ∃ g, vv = .slice (some ⟨g, 0, none⟩) 1 1 ∧ Blk ww g 2 #[.int .i64 x] | 6 => ∃ A c, vv = .slice A ((lessL l3).length + 1) c ∧ Rd ww 1 A ((lessL l3).length + 1) (ints (lessL l3 ++ [x])) | 7 => vv = .tuple #[.int .i64 X0, .bool b0] | 8 => vv = .tuple #[.int .i64 X0, .bool b0] | 9 => vv = .int .i64 X0 | 10 => vv = .bool b0 | 11 => vv = .pointer (some ⟨(w.heap.size + 3), 0, none⟩) | 12 => ww.cell? ⟨(w.heap.size + 3), 0, none⟩ = some (.int .i64 X0) | 13 => vv = .pointer (some ⟨(w.heap.size + 4), 0, none⟩) | 14 => ww.cell? ⟨(w.heap.size + 4), 0, none⟩ = some (.bool b0) | _ => True) (fun i => match i with | 1 => [(0, 9)] | 2 => [(1, 10)] | 4 => [(3, 12)] | 5 => [(4, 13)] | 6 => [(2, 11), (5, 14)] | 7 => [(6, 15)] | 8 => [(7, 16)] | 9 => [(8, 8)] | 10 => [(8, 8)] | 12 => [(11, 19), (9, 17)] | 14 => [(13, 20), (10, 18)] | _ => []) (fun i => match i with | 0 => [3] | 3 => [2] | 11 => [6] | 13 => [7] | _ => []) (fun i => match i with | 0 => [3, 4, 5] | 1 => [3, 4, 5] | 2 => [3, 4, 5] | 3 => [0, 1, 2] | 4 => [0, 1, 2] | 5 => [0, 1, 2] | 9 => [8, 10] | 10 => [8, 11, 9, 12] | 11 => [8, 9, 10] | 12 => [8, 10, 9] | 13 => [10, 9, 12] | 14 => [9, 10, 12] | _ => []) [9, 10, 12, 14] [0, 1, 3, 0, 8, 24, 63, 127, 255, 511, 511, 1023, 3071, 8191, 16383] 64 rfl (by kernel_rfl) (⟨ExtX.start _ _, ⟨_, hU⟩, ⟨_, hV⟩⟩) ?_ ?_
  · rename_i hcont; clear hcont
    refine ⟨?_, ?_, ?_, ?_, ?_, ?_, ?_, ?_, ?_, ?_, ?_, ?_, ?_, ?_, ?_, trivial⟩
    · refine stepL_plain rfl ?_
      rintro F a w1 ⟨jE, jU, jV⟩ - ⟨t3, -⟩ K hK
      have t3 : a.tmps[3]? = some (.pointer (some ⟨(w.heap.size + 1), 0, none⟩)) := t3
      go_simp
      exact hK _ _ ⟨jE, jU, jV⟩ rfl (fun _ _ _ h => h)
    · refine stepL_plain rfl ?_
      rintro F a w1 ⟨jE, jU, jV⟩ ⟨h0, t9, -⟩ - K hK
      have h0 : (F 0) = .pointer (some ⟨(w.heap.size + 1), 3, none⟩) := h0
      rw [h0] at t9
      clear h0
      have c := (jE.blk hY (by simp)).cell
      go_simp
      exact hK _ _ ⟨jE, jU, jV⟩ rfl (fun _ _ _ h => h)
    · refine stepL_plain rfl ?_
      rintro F a w1 ⟨jE, jU, jV⟩ ⟨h1, t10, -⟩ - K hK
      have h1 : (F 1) = .int .i64 l3 := h1
      rw [h1] at t10
      clear h1
      go_simp
      with_reducible refine (less_l l3 (by assumption) (by assumption) _).mono ?_
      rintro e w2 ⟨rfl, rfl⟩
      have hx : Ext w1 (w1.alloc (.cells (ints (lessL l3)).toArray 2)) := (Ext.refl _).alloc _
      exact hK _ _ ⟨jE.trans hx, jU.imp fun _ k => k.ext hx, jV.imp fun _ k => k.ext hx⟩ (⟨_, jE.size, rfl, Blk.new _ _ _⟩) (by intro j hj u h; have hj : j ∈ [3, 4, 5] := hj; simp only [List.mem_cons, List.not_mem_nil, or_false] at hj; rcases hj with rfl | rfl | rfl; exact (have h : u = .pointer (some ⟨w.heap.size, 0, none⟩) := h; h); exact (have h : u = .int .i64 x := h; h); exact (have h : ∃ g, u = .slice (some ⟨g, 0, none⟩) 1 1 ∧ Blk w1 g 2 #[.int .i64 x] := h; h.imp fun _ k => ⟨k.1, k.2.ext hx⟩))
    · refine stepL_plain rfl ?_
      rintro F a w1 ⟨jE, jU, jV⟩ - ⟨t2, -⟩ K hK
      have t2 : a.tmps[2]? = some (.pointer (some ⟨w.heap.size, 0, none⟩)) := t2
      go_simp
      exact hK _ _ ⟨jE, jU, jV⟩ rfl (fun _ _ _ h => h)
    · refine stepL_plain rfl ?_
      rintro F a w1 ⟨jE, jU, jV⟩ ⟨h3, t12, -⟩ - K hK
      have h3 : (F 3) = .pointer (some ⟨w.heap.size, 0, none⟩) := h3
      rw [h3] at t12
      clear h3
      have c := (jE.blk hP (by simp)).cell
      go_simp
      exact hK _ _ ⟨jE, jU, jV⟩ rfl (fun _ _ _ h => h)
    · refine stepL_plain rfl ?_
      rintro F a w1 ⟨jE, jU, jV⟩ ⟨h4, t13, -⟩ - K hK
      have h4 : (F 4) = .int .i64 x := h4
      rw [h4] at t13
      clear h4
      go_simp
      have hx : Ext w1 (w1.alloc (.cells #[.int .i64 x] 2)) := (Ext.refl _).alloc _
      exact hK _ _ ⟨jE.trans hx, jU.imp fun _ k => k.ext hx, jV.imp fun _ k => k.ext hx⟩ (⟨_, rfl, Blk.new _ _ _⟩) (by intro j hj u h; have hj : j ∈ [0, 1, 2] := hj; simp only [List.mem_cons, List.not_mem_nil, or_false] at hj; rcases hj with rfl | rfl | rfl; exact (have h : u = .pointer (some ⟨(w.heap.size + 1), 3, none⟩) := h; h); exact (have h : u = .int .i64 l3 := h; h); exact (have h : ∃ g, W0.heap.size ≤ g ∧ u = .slice (some ⟨g, 0, none⟩) (lessL l3).length (lessL l3).length ∧ Blk w1 g 2 (ints (lessL l3)).toArray := h; h.imp fun _ k => ⟨k.1, k.2.1, k.2.2.ext hx⟩))
    · refine stepL_plain rfl ?_
      rintro F a w1 ⟨jE, jU, jV⟩ ⟨h2, t11, h5, t14, -⟩ - K hK
      have h2 : ∃ g, W0.heap.size ≤ g ∧ (F 2) = .slice (some ⟨g, 0, none⟩) (lessL l3).length (lessL l3).length ∧ Blk w1 g 2 (ints (lessL l3)).toArray := h2
      have h5 : ∃ g, (F 5) = .slice (some ⟨g, 0, none⟩) 1 1 ∧ Blk w1 g 2 #[.int .i64 x] := h5
      obtain ⟨g1, hg1, e1, k1⟩ := h2
      obtain ⟨g2, e2, k2⟩ := h5
      rw [e1] at t11
      rw [e2] at t14
      obtain ⟨i0, hi0, hz0, hz1, hz2⟩ := info_parts i64_info
      refine wp_append_rd (.tmp 11) (.tmp 14) _ rfl W0.heap.size 2 i0 _ 1 8 Try.underlying50 hi0 hz0 hz1 hz2 rfl (by omega) _ ((lessL l3).length) (ints (lessL l3)) (eval_tmp t11) (by have h := k1.own (base := W0.heap.size) (n := (lessL l3).length) hg1 (by simp [ints]) (by have := lessL_len l3; simp only [maxLen]; omega); simpa using h) _ (1) 1 ([.int .i64 x]) (eval_tmp t14) (k2.rd rfl) (by simp [Value.oneCell']) (by have := lessL_len l3; simp only [maxLen]; omega) (by have := lessL_len l3; omega) jE.size ?_
      intro A' c' w2 own4 g4 at4
      exact hK _ _ ⟨jE.grown g4 (fun m e => by have e : g1 = m := Option.some.inj e; omega), jU.imp fun _ k => k.keep g4 (fun e => by have e := Option.some.inj e; simp at e; omega), jV.imp fun _ k => k.keep g4 (fun e => by have e := Option.some.inj e; simp at e; omega)⟩ (⟨A', c', rfl, by have h := Rd.of_own own4; simpa [ints] using h⟩) (fun _ hj _ _ => (List.not_mem_nil hj).elim)
    · refine stepL_plain rfl ?_
      rintro F a w1 ⟨jE, jU, jV⟩ ⟨h6, t15, -⟩ - K hK
      have h6 : ∃ A c, (F 6) = .slice A ((lessL l3).length + 1) c ∧ Rd w1 1 A ((lessL l3).length + 1) (ints (lessL l3 ++ [x])) := h6
      obtain ⟨A6, c6, e6, k6⟩ := h6
      rw [e6] at t15
      go_simp
      with_reducible refine (c0 _ c6 _ k6).mono ?_
      rintro e w2 ⟨rfl, hx⟩
      exact hK _ _ ⟨jE.trans hx, jU.imp fun _ k => k.ext hx, jV.imp fun _ k => k.ext hx⟩ (rfl) (fun _ hj _ _ => (List.not_mem_nil hj).elim)
    · refine stepL_plain rfl ?_
      rintro F a w1 ⟨jE, jU, jV⟩ ⟨h7, t16, -⟩ - K hK
      have h7 : (F 7) = .tuple #[.int .i64 X0, .bool b0] := h7
      rw [h7] at t16
      clear h7
      go_simp
      exact hK _ _ ⟨jE, jU, jV⟩ rfl (fun _ _ _ h => h)
    · refine stepL_plain rfl ?_
      rintro F a w1 ⟨jE, jU, jV⟩ ⟨h8, t8, -⟩ - K hK
      have h8 : (F 8) = .tuple #[.int .i64 X0, .bool b0] := h8
      rw [h8] at t8
      clear h8
      go_simp
      exact hK _ _ ⟨jE, jU, jV⟩ rfl (fun _ _ _ h => h)
    · refine stepL_plain rfl ?_
      rintro F a w1 ⟨jE, jU, jV⟩ ⟨h8, t8, -⟩ - K hK
      have h8 : (F 8) = .tuple #[.int .i64 X0, .bool b0] := h8
      rw [h8] at t8
      clear h8
      go_simp
      exact hK _ _ ⟨jE, jU, jV⟩ rfl (fun _ _ _ h => h)
    · refine stepL_plain rfl ?_
      rintro F a w1 ⟨jE, jU, jV⟩ - ⟨t6, -⟩ K hK
      have t6 : a.tmps[6]? = some (.pointer (some ⟨(w.heap.size + 3), 0, none⟩)) := t6
      go_simp
      exact hK _ _ ⟨jE, jU, jV⟩ rfl (fun _ _ _ h => h)
    · refine stepL_plain rfl ?_
      rintro F a w1 ⟨jE, jU, jV⟩ ⟨h11, t19, h9, t17, -⟩ - K hK
      have h11 : (F 11) = .pointer (some ⟨(w.heap.size + 3), 0, none⟩) := h11
      rw [h11] at t19
      clear h11
      have h9 : (F 9) = .int .i64 X0 := h9
      rw [h9] at t17
      clear h9
      obtain ⟨_, k⟩ := jU
      have c := k.cell
      have f := k.frozen
      go_simp
      exact hK undef _ ⟨jE.set (by simp) _, ⟨_, k.set_ 0 _⟩, jV.imp fun _ k => k.far (by first | omega | simp) _⟩ (by rw [(k.set_ 0 _).cell]; rfl) (by intro j hj u h; have hj : j ∈ [8, 10, 9] := hj; simp only [List.mem_cons, List.not_mem_nil, or_false] at hj; rcases hj with rfl | rfl | rfl; exact (have h : u = .tuple #[.int .i64 X0, .bool b0] := h; h); exact (have h : u = .bool b0 := h; h); exact (have h : u = .int .i64 X0 := h; h))
    · refine stepL_plain rfl ?_
      rintro F a w1 ⟨jE, jU, jV⟩ - ⟨t7, -⟩ K hK
      have t7 : a.tmps[7]? = some (.pointer (some ⟨(w.heap.size + 4), 0, none⟩)) := t7
      go_simp
      exact hK _ _ ⟨jE, jU, jV⟩ rfl (fun _ _ _ h => h)
    · refine stepL_plain rfl ?_
      rintro F a w1 ⟨jE, jU, jV⟩ ⟨h13, t20, h10, t18, -⟩ - K hK
      have h13 : (F 13) = .pointer (some ⟨(w.heap.size + 4), 0, none⟩) := h13
      rw [h13] at t20
      clear h13
      have h10 : (F 10) = .bool b0 := h10
      rw [h10] at t18
      clear h10
      obtain ⟨_, k⟩ := jV
      have c := k.cell
      have f := k.frozen
      go_simp
      exact hK undef _ ⟨jE.set (by simp) _, jU.imp fun _ k => k.far (by first | omega | simp) _, ⟨_, k.set_ 0 _⟩⟩ (by rw [(k.set_ 0 _).cell]; rfl) (by intro j hj u h; have hj : j ∈ [9, 10, 12] := hj; simp only [List.mem_cons, List.not_mem_nil, or_false] at hj; rcases hj with rfl | rfl | rfl; exact (have h : u = .int .i64 X0 := h; h); exact (have h : u = .bool b0 := h; h); exact (have h : w1.cell? ⟨(w.heap.size + 3), 0, none⟩ = some (.int .i64 X0) := h; (World.cell?_setCell_other _ _ _ _ (by simp)).trans h))
  · rintro F W1 ⟨jE, jU, jV⟩ ⟨h9, h10, h12, h14, -⟩
    have h9 : (F 9) = .int .i64 X0 := h9
    have h10 : (F 10) = .bool b0 := h10
    have h12 : W1.cell? ⟨(w.heap.size + 3), 0, none⟩ = some (.int .i64 X0) := h12
    have h14 : W1.cell? ⟨(w.heap.size + 4), 0, none⟩ = some (.bool b0) := h14
    clear hU hV zV
    obtain ⟨Z, hU⟩ := jU
    obtain ⟨z, hV⟩ := jV
    have eZ : Z = X0 := by have e := (hU.cell 0).symm.trans h12; simpa using e
    rw [eZ] at hU
    have ez : z = b0 := by have e := (hV.cell 0).symm.trans h14; simpa using e
    rw [ez] at hV
    have E1 : Ext w W1 := jE.ext E0 (by simp)
    replace hP := jE.blk hP (by simp)
    replace hY := jE.blk hY (by simp)
    replace hO := jE.blk hO (by simp)
    simp only [putL, Act.put, Nat.reduceAdd, Nat.zero_add, List.setIfInBounds_toArray, List.set_cons_succ, List.set_cons_zero]
    rw [h9, h10]
    clear h9 h10 h12 h14 jE E0 eZ ez
    clear Z z
    have zV := hV.lt
    go_wp2_with fail
    refine wp_region_lin (by kernel_rfl) (fun w' => (ExtX W1 w' [(w.heap.size + 3), (w.heap.size + 4)]) ∧ (∃ Z, Blk w' (w.heap.size + 3) 33 #[.int .i64 X0, .int .i64 Z, .int .i64 0, .int .i64 0]) ∧ (∃ z, Blk w' (w.heap.size + 4) 49 #[.bool b0, .bool z, .bool false, .bool false])) (fun i vv ww => match i with | 0 => vv = .pointer (some ⟨(w.heap.size + 1), 0, none⟩) | 1 => vv = .int .i64 l0 | 2 => ∃ g, W1.heap.size ≤ g ∧ vv = .slice (some ⟨g, 0, none⟩) (lessL l0).length (lessL l0).length ∧ Blk ww g 2 (ints (lessL l0)).toArray | 3 => vv = .pointer (some ⟨w.heap.size, 1, none⟩) | 4 => vv = .int .i64 y | 5 => ∃ g, vv = .slice (some ⟨g, 0, none⟩) 1 1 ∧ Blk ww g 2 #[.int .i64 y] | 6 => ∃ A c, vv = .slice A ((lessL l0).length + 1) c ∧ Rd ww 1 A ((lessL l0).length + 1) (ints (lessL l0 ++ [y])) | 7 => vv = .tuple #[.int .i64 X1, .bool b1] | 8 => vv = .tuple #[.int .i64 X1, .bool b1] | 9 => vv = .int .i64 X1 | 10 => vv = .bool b1 | 11 => vv = .pointer (some ⟨(w.heap.size + 3), 1, none⟩) | 12 => ww.cell? ⟨(w.heap.size + 3), 1, none⟩ = some (.int .i64 X1) | 13 => vv = .pointer (some ⟨(w.heap.size + 4), 1, none⟩) | 14 => ww.cell? ⟨(w.heap.size + 4), 1, none⟩ = some (.bool b1) | _ => True) (fun i => match i with | 1 => [(0, 22)] | 2 => [(1, 23)] | 4 => [(3, 25)] | 5 => [(4, 26)] | 6 => [(2, 24), (5, 27)] | 7 => [(6, 28)] | 8 => [(7, 29)] | 9 => [(8, 21)] | 10 => [(8, 21)] | 12 => [(11, 32), (9, 30)] | 14 => [(13, 33), (10, 31)] | _ => []) (fun i => match i with | 0 => [3] | 3 => [2] | 11 => [6] | 13 => [7] | _ => []) (fun i => match i with | 0 => [3, 4, 5] | 1 => [3, 4, 5] | 2 => [3, 4, 5] | 3 => [0, 1, 2] | 4 => [0, 1, 2] | 5 => [0, 1, 2] | 9 => [8, 10] | 10 => [8, 11, 9, 12] | 11 => [8, 9, 10] | 12 => [8, 10, 9] | 13 => [10, 9, 12] | 14 => [9, 10, 12] | _ => []) [9, 10, 12, 14] [0, 1, 3, 0, 8, 24, 63, 127, 255, 511, 511, 1023, 3071, 8191, 16383] 64 rfl (by kernel_rfl) (⟨ExtX.start _ _, ⟨_, hU⟩, ⟨_, hV⟩⟩) ?_ ?_
    · rename_i hcont; clear hcont
      refine ⟨?_, ?_, ?_, ?_, ?_, ?_, ?_, ?_, ?_, ?_, ?_, ?_, ?_, ?_, ?_, trivial⟩
      · refine stepL_plain rfl ?_
        rintro F a w1 ⟨jE, jU, jV⟩ - ⟨t3, -⟩ K hK
        have t3 : a.tmps[3]? = some (.pointer (some ⟨(w.heap.size + 1), 0, none⟩)) := t3
        go_simp
        exact hK _ _ ⟨jE, jU, jV⟩ rfl (fun _ _ _ h => h)
      · refine stepL_plain rfl ?_
        rintro F a w1 ⟨jE, jU, jV⟩ ⟨h0, t22, -⟩ - K hK
        have h0 : (F 0) = .pointer (some ⟨(w.heap.size + 1), 0, none⟩) := h0
        rw [h0] at t22
        clear h0
        have c := (jE.blk hY (by simp)).cell
        go_simp
        exact hK _ _ ⟨jE, jU, jV⟩ rfl (fun _ _ _ h => h)
      · refine stepL_plain rfl ?_
        rintro F a w1 ⟨jE, jU, jV⟩ ⟨h1, t23, -⟩ - K hK
        have h1 : (F 1) = .int .i64 l0 := h1
        rw [h1] at t23
        clear h1
        go_simp
        with_reducible refine (less_l l0 (by assumption) (by assumption) _).mono ?_
        rintro e w2 ⟨rfl, rfl⟩
        have hx : Ext w1 (w1.alloc (.cells (ints (lessL l0)).toArray 2)) := (Ext.refl _).alloc _
        exact hK _ _ ⟨jE.trans hx, jU.imp fun _ k => k.ext hx, jV.imp fun _ k => k.ext hx⟩ (⟨_, jE.size, rfl, Blk.new _ _ _⟩) (by intro j hj u h; have hj : j ∈ [3, 4, 5] := hj; simp only [List.mem_cons, List.not_mem_nil, or_false] at hj; rcases hj with rfl | rfl | rfl; exact (have h : u = .pointer (some ⟨w.heap.size, 1, none⟩) := h; h); exact (have h : u = .int .i64 y := h; h); exact (have h : ∃ g, u = .slice (some ⟨g, 0, none⟩) 1 1 ∧ Blk w1 g 2 #[.int .i64 y] := h; h.imp fun _ k => ⟨k.1, k.2.ext hx⟩))
      · refine stepL_plain rfl ?_
        rintro F a w1 ⟨jE, jU, jV⟩ - ⟨t2, -⟩ K hK
        have t2 : a.tmps[2]? = some (.pointer (some ⟨w.heap.size, 0, none⟩)) := t2
        go_simp
        exact hK _ _ ⟨jE, jU, jV⟩ rfl (fun _ _ _ h => h)
      · refine stepL_plain rfl ?_
        rintro F a w1 ⟨jE, jU, jV⟩ ⟨h3, t25, -⟩ - K hK
        have h3 : (F 3) = .pointer (some ⟨w.heap.size, 1, none⟩) := h3
        rw [h3] at t25
        clear h3
        have c := (jE.blk hP (by simp)).cell
        go_simp
        exact hK _ _ ⟨jE, jU, jV⟩ rfl (fun _ _ _ h => h)
      · refine stepL_plain rfl ?_
        rintro F a w1 ⟨jE, jU, jV⟩ ⟨h4, t26, -⟩ - K hK
        have h4 : (F 4) = .int .i64 y := h4
        rw [h4] at t26
        clear h4
        go_simp
        have hx : Ext w1 (w1.alloc (.cells #[.int .i64 y] 2)) := (Ext.refl _).alloc _
        exact hK _ _ ⟨jE.trans hx, jU.imp fun _ k => k.ext hx, jV.imp fun _ k => k.ext hx⟩ (⟨_, rfl, Blk.new _ _ _⟩) (by intro j hj u h; have hj : j ∈ [0, 1, 2] := hj; simp only [List.mem_cons, List.not_mem_nil, or_false] at hj; rcases hj with rfl | rfl | rfl; exact (have h : u = .pointer (some ⟨(w.heap.size + 1), 0, none⟩) := h; h); exact (have h : u = .int .i64 l0 := h; h); exact (have h : ∃ g, W1.heap.size ≤ g ∧ u = .slice (some ⟨g, 0, none⟩) (lessL l0).length (lessL l0).length ∧ Blk w1 g 2 (ints (lessL l0)).toArray := h; h.imp fun _ k => ⟨k.1, k.2.1, k.2.2.ext hx⟩))
      · refine stepL_plain rfl ?_
        rintro F a w1 ⟨jE, jU, jV⟩ ⟨h2, t24, h5, t27, -⟩ - K hK
        have h2 : ∃ g, W1.heap.size ≤ g ∧ (F 2) = .slice (some ⟨g, 0, none⟩) (lessL l0).length (lessL l0).length ∧ Blk w1 g 2 (ints (lessL l0)).toArray := h2
        have h5 : ∃ g, (F 5) = .slice (some ⟨g, 0, none⟩) 1 1 ∧ Blk w1 g 2 #[.int .i64 y] := h5
        obtain ⟨g1, hg1, e1, k1⟩ := h2
        obtain ⟨g2, e2, k2⟩ := h5
        rw [e1] at t24
        rw [e2] at t27
        obtain ⟨i0, hi0, hz0, hz1, hz2⟩ := info_parts i64_info
        refine wp_append_rd (.tmp 24) (.tmp 27) _ rfl W1.heap.size 2 i0 _ 1 8 Try.underlying50 hi0 hz0 hz1 hz2 rfl (by omega) _ ((lessL l0).length) (ints (lessL l0)) (eval_tmp t24) (by have h := k1.own (base := W1.heap.size) (n := (lessL l0).length) hg1 (by simp [ints]) (by have := lessL_len l0; simp only [maxLen]; omega); simpa using h) _ (1) 1 ([.int .i64 y]) (eval_tmp t27) (k2.rd rfl) (by simp [Value.oneCell']) (by have := lessL_len l0; simp only [maxLen]; omega) (by have := lessL_len l0; omega) jE.size ?_
        intro A' c' w2 own4 g4 at4
        exact hK _ _ ⟨jE.grown g4 (fun m e => by have e : g1 = m := Option.some.inj e; omega), jU.imp fun _ k => k.keep g4 (fun e => by have e := Option.some.inj e; simp at e; omega), jV.imp fun _ k => k.keep g4 (fun e => by have e := Option.some.inj e; simp at e; omega)⟩ (⟨A', c', rfl, by have h := Rd.of_own own4; simpa [ints] using h⟩) (fun _ hj _ _ => (List.not_mem_nil hj).elim)
      · refine stepL_plain rfl ?_
        rintro F a w1 ⟨jE, jU, jV⟩ ⟨h6, t28, -⟩ - K hK
        have h6 : ∃ A c, (F 6) = .slice A ((lessL l0).length + 1) c ∧ Rd w1 1 A ((lessL l0).length + 1) (ints (lessL l0 ++ [y])) := h6
        obtain ⟨A6, c6, e6, k6⟩ := h6
        rw [e6] at t28
        go_simp
        with_reducible refine (c1 _ c6 _ k6).mono ?_
        rintro e w2 ⟨rfl, hx⟩
        exact hK _ _ ⟨jE.trans hx, jU.imp fun _ k => k.ext hx, jV.imp fun _ k => k.ext hx⟩ (rfl) (fun _ hj _ _ => (List.not_mem_nil hj).elim)
      · refine stepL_plain rfl ?_
        rintro F a w1 ⟨jE, jU, jV⟩ ⟨h7, t29, -⟩ - K hK
        have h7 : (F 7) = .tuple #[.int .i64 X1, .bool b1] := h7
        rw [h7] at t29
        clear h7
        go_simp
        exact hK _ _ ⟨jE, jU, jV⟩ rfl (fun _ _ _ h => h)
      · refine stepL_plain rfl ?_
        rintro F a w1 ⟨jE, jU, jV⟩ ⟨h8, t21, -⟩ - K hK
        have h8 : (F 8) = .tuple #[.int .i64 X1, .bool b1] := h8
        rw [h8] at t21
        clear h8
        go_simp
        exact hK _ _ ⟨jE, jU, jV⟩ rfl (fun _ _ _ h => h)
      · refine stepL_plain rfl ?_
        rintro F a w1 ⟨jE, jU, jV⟩ ⟨h8, t21, -⟩ - K hK
        have h8 : (F 8) = .tuple #[.int .i64 X1, .bool b1] := h8
        rw [h8] at t21
        clear h8
        go_simp
        exact hK _ _ ⟨jE, jU, jV⟩ rfl (fun _ _ _ h => h)
      · refine stepL_plain rfl ?_
        rintro F a w1 ⟨jE, jU, jV⟩ - ⟨t6, -⟩ K hK
        have t6 : a.tmps[6]? = some (.pointer (some ⟨(w.heap.size + 3), 0, none⟩)) := t6
        go_simp
        exact hK _ _ ⟨jE, jU, jV⟩ rfl (fun _ _ _ h => h)
      · refine stepL_plain rfl ?_
        rintro F a w1 ⟨jE, jU, jV⟩ ⟨h11, t32, h9, t30, -⟩ - K hK
        have h11 : (F 11) = .pointer (some ⟨(w.heap.size + 3), 1, none⟩) := h11
        rw [h11] at t32
        clear h11
        have h9 : (F 9) = .int .i64 X1 := h9
        rw [h9] at t30
        clear h9
        obtain ⟨_, k⟩ := jU
        have c := k.cell
        have f := k.frozen
        go_simp
        exact hK undef _ ⟨jE.set (by simp) _, ⟨_, k.set_ 1 _⟩, jV.imp fun _ k => k.far (by first | omega | simp) _⟩ (by rw [(k.set_ 1 _).cell]; rfl) (by intro j hj u h; have hj : j ∈ [8, 10, 9] := hj; simp only [List.mem_cons, List.not_mem_nil, or_false] at hj; rcases hj with rfl | rfl | rfl; exact (have h : u = .tuple #[.int .i64 X1, .bool b1] := h; h); exact (have h : u = .bool b1 := h; h); exact (have h : u = .int .i64 X1 := h; h))
      · refine stepL_plain rfl ?_
        rintro F a w1 ⟨jE, jU, jV⟩ - ⟨t7, -⟩ K hK
        have t7 : a.tmps[7]? = some (.pointer (some ⟨(w.heap.size + 4), 0, none⟩)) := t7
        go_simp
        exact hK _ _ ⟨jE, jU, jV⟩ rfl (fun _ _ _ h => h)
      · refine stepL_plain rfl ?_
        rintro F a w1 ⟨jE, jU, jV⟩ ⟨h13, t33, h10, t31, -⟩ - K hK
        have h13 : (F 13) = .pointer (some ⟨(w.heap.size + 4), 1, none⟩) := h13
        rw [h13] at t33
        clear h13
        have h10 : (F 10) = .bool b1 := h10
        rw [h10] at t31
        clear h10
        obtain ⟨_, k⟩ := jV
        have c := k.cell
        have f := k.frozen
        go_simp
        exact hK undef _ ⟨jE.set (by simp) _, jU.imp fun _ k => k.far (by first | omega | simp) _, ⟨_, k.set_ 1 _⟩⟩ (by rw [(k.set_ 1 _).cell]; rfl) (by intro j hj u h; have hj : j ∈ [9, 10, 12] := hj; simp only [List.mem_cons, List.not_mem_nil, or_false] at hj; rcases hj with rfl | rfl | rfl; exact (have h : u = .int .i64 X1 := h; h); exact (have h : u = .bool b1 := h; h); exact (have h : w1.cell? ⟨(w.heap.size + 3), 1, none⟩ = some (.int .i64 X1) := h; (World.cell?_setCell_other _ _ _ _ (by simp)).trans h))
    · rintro F W2 ⟨jE, jU, jV⟩ ⟨h9, h10, h12, h14, -⟩
      have h9 : (F 9) = .int .i64 X1 := h9
      have h10 : (F 10) = .bool b1 := h10
      have h12 : W2.cell? ⟨(w.heap.size + 3), 1, none⟩ = some (.int .i64 X1) := h12
      have h14 : W2.cell? ⟨(w.heap.size + 4), 1, none⟩ = some (.bool b1) := h14
      clear hU hV zV
      obtain ⟨Z, hU⟩ := jU
      obtain ⟨z, hV⟩ := jV
      have eZ : Z = X1 := by have e := (hU.cell 1).symm.trans h12; simpa using e
      rw [eZ] at hU
      have ez : z = b1 := by have e := (hV.cell 1).symm.trans h14; simpa using e
      rw [ez] at hV
      have E2 : Ext w W2 := jE.ext E1 (by simp)
      replace hP := jE.blk hP (by simp)
      replace hY := jE.blk hY (by simp)
      replace hO := jE.blk hO (by simp)
      simp only [putL, Act.put, Nat.reduceAdd, Nat.zero_add, List.setIfInBounds_toArray, List.set_cons_succ, List.set_cons_zero]
      rw [h9, h10]
      clear h9 h10 h12 h14 jE E1 eZ ez
      clear Z z
      have zV := hV.lt
      have dP := hP.cell
      have dY := hY.cell
      have dU := hU.cell
      have fU := hU.frozen
      have dV := hV.cell
      have fV := hV.frozen
      have lV := hV.lt
      go_wp2_with fail
      refine (unhide (c2 _ _ (Blk.new _ _ _))).mono ?_
      rintro e W3 ⟨rfl, hx⟩
      have hx : Ext W2 W3 := ((Ext.refl _).alloc _).trans hx
      clear dP dY dU fU dV fV lV
      replace hP := hP.ext hx
      replace hY := hY.ext hx
      replace hO := hO.ext hx
      replace hU := hU.ext hx
      replace hV := hV.ext hx
      have E3 := E2.trans hx
      clear E2 hx
      have dP := hP.cell
      have dY := hY.cell
      have dU := hU.cell
      have fU := hU.frozen
      have dV := hV.cell
      have fV := hV.frozen
      have lV := hV.lt
      go_wp2_with fail
      obtain ⟨W4, hW⟩ : ∃ W', W' = (W3.setCell ⟨(w.heap.size + 3), 2, none⟩ (.int .i64 X2)).setCell ⟨(w.heap.size + 4), 2, none⟩ (.bool b2) := ⟨_, rfl⟩
      have hs : W4.heap.size = W3.heap.size := by rw [hW]; simp [World.setCell]
      rw [← hW]
      clear dP dY dU fU dV fV lV
      replace hP : Blk W4 w.heap.size 33 #[.int .i64 x, .int .i64 y, .int .i64 p, .int .i64 q] := by rw [hW]; exact (hP.far (by simp) _).far (by simp) _
      replace hY : Blk W4 (w.heap.size + 1) 24 #[.int .i64 l0, .int .i64 l1, .int .i64 l2, .int .i64 l3] := by rw [hW]; exact (hY.far (by simp) _).far (by simp) _
      replace hO : Blk W4 (w.heap.size + 2) 33 #[.int .i64 0, .int .i64 0, .int .i64 0, .int .i64 0] := by rw [hW]; exact (hO.far (by simp) _).far (by simp) _
      replace hU : Blk W4 (w.heap.size + 3) 33 #[.int .i64 X0, .int .i64 X1, .int .i64 X2, .int .i64 0] := by rw [hW]; exact (hU.set_ 2 _).far (by simp) _
      replace hV : Blk W4 (w.heap.size + 4) 49 #[.bool b0, .bool b1, .bool b2, .bool false] := by rw [hW]; exact (hV.far (by simp) _).set_ 2 _
      have E4 : Ext w W4 := by rw [hW]; exact (E3.set (by simp) _).set (by simp) _
      clear hW E3
      have dP := hP.cell
      have dY := hY.cell
      have dU := hU.cell
      have fU := hU.frozen
      have dV := hV.cell
      have fV := hV.frozen
      have lV := hV.lt
      refine (unhide (c3 _ _ (by have h := Blk.new W4 2 #[.int .i64 q, .int .i64 l0, .int .i64 l2]; rw [hs] at h; exact h))).mono ?_
      rintro e W5 ⟨rfl, hx⟩
      have hx : Ext W4 W5 := ((Ext.refl _).alloc _).trans hx
      clear hs
      clear dP dY dU fU dV fV lV
      replace hP := hP.ext hx
      replace hY := hY.ext hx
      replace hO := hO.ext hx
      replace hU := hU.ext hx
      replace hV := hV.ext hx
      have E5 := E4.trans hx
      clear E4 hx
      have dP := hP.cell
      have dY := hY.cell
      have dU := hU.cell
      have fU := hU.frozen
      have dV := hV.cell
      have fV := hV.frozen
      have lV := hV.lt
      go_wp2_with fail
      obtain ⟨W6, hW⟩ : ∃ W', W' = (W5.setCell ⟨(w.heap.size + 3), 3, none⟩ (.int .i64 X3)).setCell ⟨(w.heap.size + 4), 3, none⟩ (.bool b3) := ⟨_, rfl⟩
      have hs : W6.heap.size = W5.heap.size := by rw [hW]; simp [World.setCell]
      rw [← hW]
      clear dP dY dU fU dV fV lV
      replace hP : Blk W6 w.heap.size 33 #[.int .i64 x, .int .i64 y, .int .i64 p, .int .i64 q] := by rw [hW]; exact (hP.far (by simp) _).far (by simp) _
      replace hY : Blk W6 (w.heap.size + 1) 24 #[.int .i64 l0, .int .i64 l1, .int .i64 l2, .int .i64 l3] := by rw [hW]; exact (hY.far (by simp) _).far (by simp) _
      replace hO : Blk W6 (w.heap.size + 2) 33 #[.int .i64 0, .int .i64 0, .int .i64 0, .int .i64 0] := by rw [hW]; exact (hO.far (by simp) _).far (by simp) _
      replace hU : Blk W6 (w.heap.size + 3) 33 #[.int .i64 X0, .int .i64 X1, .int .i64 X2, .int .i64 X3] := by rw [hW]; exact (hU.set_ 3 _).far (by simp) _
      replace hV : Blk W6 (w.heap.size + 4) 49 #[.bool b0, .bool b1, .bool b2, .bool b3] := by rw [hW]; exact (hV.far (by simp) _).set_ 3 _
      have E6 : Ext w W6 := by rw [hW]; exact (E5.set (by simp) _).set (by simp) _
      clear hW E5
      have dP := hP.cell
      have dY := hY.cell
      have dU := hU.cell
      have fU := hU.frozen
      have dV := hV.cell
      have fV := hV.frozen
      have lV := hV.lt
      have dO := hO.cell
      have fO := hO.frozen
      have heq := eq_bool4
      clear c0 c1 c2 c3 a1 a2 a3 a4 a5 a6 a7 a8
      go_region
      go_wp2
      refine bodyPost_ret (results_cell_tmp rfl _ _ (w.heap.size + 2) 33 _ _ rfl ((((hO.set_ 0 _).set_ 1 _).set_ 2 _).set_ 3 _) Try.underlying33 rfl (by kernel_rfl)) rfl ⟨rfl, ?_⟩
      exact ((((E6.set (by simp; omega) _).set (by simp; omega) _).set (by simp; omega) _).set (by simp; omega) _).drew
end Go.Proofs.Ytphckjnmbbjenaa
