/- Layer 2: the reference's rectangle that grows (walk). -/
import Derived.Test.YtphckjnmbbjenaaBigJ
import Derived.Test.YtphckjnmbbjenaaEdG
namespace Go.Proofs.Ytphckjnmbbjenaa
open Go.RowKit

set_option maxRecDepth 100000 in
set_option maxHeartbeats 8000000 in
theorem refgrow_any (r : Rc) (hr : r.Ok) (l0 l1 l2 l3 : Int) (z0 : -9223372036854775808 ≤ l0 ∧ l0 ≤ 9223372036854775807) (z1 : -9223372036854775808 ≤ l1 ∧ l1 ≤ 9223372036854775807) (z2 : -9223372036854775808 ≤ l2 ∧ l2 ≤ 9223372036854775807) (z3 : -9223372036854775808 ≤ l3 ∧ l3 ≤ 9223372036854775807) (w : World) :
    Calls Try.prog 16 #[.agg r.cs, .agg #[.int .i64 l0, .int .i64 l1, .int .i64 l2, .int .i64 l3]] w fun e w' => e = .returned (.tuple #[.agg (growR r l0 l1 l2 l3).cs, .bool (growB r l0 l1 l2 l3)]) ∧ Ext w w' := by
  obtain ⟨x, y, p, q⟩ := r
  obtain ⟨a1, a2, a3, a4, a5, a6, a7, a8⟩ := hr
  simp only at a1 a2 a3 a4 a5 a6 a7 a8
  have eR : growR ⟨x, y, p, q⟩ l0 l1 l2 l3 = ⟨cutV (x - l3), cutV (y - l0), cutV (p + l3 + l1), cutV (q + l0 + l2)⟩ := rfl
  have eB : growB ⟨x, y, p, q⟩ l0 l1 l2 l3 = (cutB (x - l3) || cutB (y - l0) || cutB (p + l3 + l1) || cutB (q + l0 + l2)) := rfl
  rw [eR, eB]
  obtain ⟨X0, b0, h0⟩ : ∃ X b, cutV (x - l3) = X ∧ cutB (x - l3) = b := ⟨_, _, rfl, rfl⟩
  obtain ⟨X1, b1, h1⟩ : ∃ X b, cutV (y - l0) = X ∧ cutB (y - l0) = b := ⟨_, _, rfl, rfl⟩
  obtain ⟨X2, b2, h2⟩ : ∃ X b, cutV (p + l3 + l1) = X ∧ cutB (p + l3 + l1) = b := ⟨_, _, rfl, rfl⟩
  obtain ⟨X3, b3, h3⟩ : ∃ X b, cutV (q + l0 + l2) = X ∧ cutB (q + l0 + l2) = b := ⟨_, _, rfl, rfl⟩
  rw [h0.1, h0.2, h1.1, h1.2, h2.1, h2.2, h3.1, h3.2]
  have HX := hide (And.intro a1 a2)
  have HY := hide (And.intro a3 a4)
  have HP := hide (And.intro a5 a6)
  have HQ := hide (And.intro a7 a8)
  have HZ0 := hide z0
  have HZ1 := hide z1
  have HZ2 := hide z2
  have HZ3 := hide z3
  have c0 := fun (W : World) v k (h : BigAt W v (x - l3) k) (hk : k ≤ 9000) => (h0.1 ▸ h0.2 ▸ cut_at h hk : Calls Try.prog 30 #[v] W fun e w' => e = .returned (.tuple #[.int .i64 X0, .bool b0]) ∧ Ext W w')
  have c1 := fun (W : World) v k (h : BigAt W v (y - l0) k) (hk : k ≤ 9000) => (h1.1 ▸ h1.2 ▸ cut_at h hk : Calls Try.prog 30 #[v] W fun e w' => e = .returned (.tuple #[.int .i64 X1, .bool b1]) ∧ Ext W w')
  have c2 := fun (W : World) v k (h : BigAt W v (p + l3 + l1) k) (hk : k ≤ 9000) => (h2.1 ▸ h2.2 ▸ cut_at h hk : Calls Try.prog 30 #[v] W fun e w' => e = .returned (.tuple #[.int .i64 X2, .bool b2]) ∧ Ext W w')
  have c3 := fun (W : World) v k (h : BigAt W v (q + l0 + l2) k) (hk : k ≤ 9000) => (h3.1 ▸ h3.2 ▸ cut_at h hk : Calls Try.prog 30 #[v] W fun e w' => e = .returned (.tuple #[.int .i64 X3, .bool b3]) ∧ Ext W w')
  clear h0 h1 h2 h3 eR eB a1 a2 a3 a4 a5 a6 a7 a8 z0 z1 z2 z3
  go_enter Try.func16, Try.ntmps16
  go_upto_region 1 with fail
  have hP : Blk (((w.alloc (.cells #[.int .i64 x, .int .i64 y, .int .i64 p, .int .i64 q] 33)).alloc (.cells #[.int .i64 l0, .int .i64 l1, .int .i64 l2, .int .i64 l3] 24)).alloc (.cells #[.int .i64 0, .int .i64 0, .int .i64 0, .int .i64 0] 33)) w.heap.size 33 #[.int .i64 x, .int .i64 y, .int .i64 p, .int .i64 q] := ((Blk.new _ _ _).alloc _).alloc _
  have hY : Blk (((w.alloc (.cells #[.int .i64 x, .int .i64 y, .int .i64 p, .int .i64 q] 33)).alloc (.cells #[.int .i64 l0, .int .i64 l1, .int .i64 l2, .int .i64 l3] 24)).alloc (.cells #[.int .i64 0, .int .i64 0, .int .i64 0, .int .i64 0] 33)) (w.heap.size + 1) 24 #[.int .i64 l0, .int .i64 l1, .int .i64 l2, .int .i64 l3] := (Blk.new1 _ _ _ _).alloc _
  have hO : Blk (((w.alloc (.cells #[.int .i64 x, .int .i64 y, .int .i64 p, .int .i64 q] 33)).alloc (.cells #[.int .i64 l0, .int .i64 l1, .int .i64 l2, .int .i64 l3] 24)).alloc (.cells #[.int .i64 0, .int .i64 0, .int .i64 0, .int .i64 0] 33)) (w.heap.size + 1 + 1) 33 #[.int .i64 0, .int .i64 0, .int .i64 0, .int .i64 0] := Blk.new2 _ _ _ _ _
  have E0 : Ext w (((w.alloc (.cells #[.int .i64 x, .int .i64 y, .int .i64 p, .int .i64 q] 33)).alloc (.cells #[.int .i64 l0, .int .i64 l1, .int .i64 l2, .int .i64 l3] 24)).alloc (.cells #[.int .i64 0, .int .i64 0, .int .i64 0, .int .i64 0] 33)) := (((Ext.refl _).alloc _).alloc _).alloc _
  generalize (((w.alloc (.cells #[.int .i64 x, .int .i64 y, .int .i64 p, .int .i64 q] 33)).alloc (.cells #[.int .i64 l0, .int .i64 l1, .int .i64 l2, .int .i64 l3] 24)).alloc (.cells #[.int .i64 0, .int .i64 0, .int .i64 0, .int .i64 0] 33)) = W0 at *
  generalize hga : w.heap.size = ga at *
  have HGA := hide hga
  clear hga
  have lO := hO.lt
  refine wp_region_lin (by kernel_rfl) (fun w' => (ExtX W0 w' [])) (fun ii vv ww => match ii with | 0 => vv = .pointer (some ⟨ga, 0, none⟩) | 1 => vv = .int .i64 x | 2 => BigAt ww vv (x) 64 | 3 => vv = .pointer (some ⟨(ga + 1), 3, none⟩) | 4 => vv = .int .i64 l3 | 5 => BigAt ww vv (-l3) 130 | 6 => BigAt ww vv (x - l3) (max 64 130 + 1) | 7 => vv = (.tuple #[.int .i64 X0, .bool b0]) | 8 => vv = (.tuple #[.int .i64 X0, .bool b0]) | 9 => vv = .int .i64 X0 | 10 => vv = .bool b0 | 11 => vv = .int .i64 X0 | 12 => vv = .bool b0 | _ => True) (fun ii => match ii with | 1 => [(0, 15)] | 2 => [(1, 16)] | 4 => [(3, 18)] | 5 => [(4, 19)] | 6 => [(2, 17), (5, 20)] | 7 => [(6, 21)] | 8 => [(7, 22)] | 9 => [(8, 14)] | 10 => [(8, 14)] | 11 => [(9, 23)] | 12 => [(10, 24)] | _ => []) (fun ii => match ii with | 0 => [2] | 3 => [3] | _ => []) (fun ii => match ii with | 0 => [3, 4] | 1 => [3, 4] | 2 => [3, 4] | 3 => [0, 1, 2] | 4 => [0, 1, 2] | 5 => [2] | 9 => [8, 10] | 10 => [8, 9, 11] | 11 => [8, 10] | 12 => [11] | _ => []) [11, 12] [0, 1, 3, 0, 8, 31, 63, 127, 255, 511, 511, 1023, 4095] 77 rfl (by kernel_rfl) (ExtX.start _ _) ?_ ?_
  · rename_i hcont; clear hcont
    refine ⟨?_, ?_, ?_, ?_, ?_, ?_, ?_, ?_, ?_, ?_, ?_, ?_, ?_, trivial⟩
    · refine stepL_plain rfl ?_
      rintro F a w1 jE - ⟨t2, -⟩ K hK
      have t2 : a.tmps[2]? = some (.pointer (some ⟨ga, 0, none⟩)) := t2
      go_simp
      exact hK _ _ jE rfl (fun _ _ _ h => h)
    · refine stepL_plain rfl ?_
      rintro F a w1 jE ⟨h0, t15, -⟩ - K hK
      have h0 : (F 0) = .pointer (some ⟨ga, 0, none⟩) := h0
      rw [h0] at t15
      clear h0
      have c := (jE.blk hP (by simp)).cell
      go_simp
      exact hK _ _ jE rfl (fun _ _ _ h => h)
    · refine stepL_plain rfl ?_
      rintro F a w1 jE ⟨h1, t16, -⟩ - K hK
      have h1 : (F 1) = .int .i64 x := h1
      rw [h1] at t16
      clear h1
      go_simp
      with_reducible refine (of_at _ x (unhide HX)).mono ?_
      rintro e w2 ⟨⟨v', rfl, hv⟩, hx⟩
      exact hK _ _ (jE.trans hx) (hv.eq (by omega)) (by intro jq hj uq h; have hj : jq ∈ [3, 4] := hj; simp only [List.mem_cons, List.not_mem_nil, or_false] at hj; rcases hj with rfl | rfl; exact h; exact h)
    · refine stepL_plain rfl ?_
      rintro F a w1 jE - ⟨t3, -⟩ K hK
      have t3 : a.tmps[3]? = some (.pointer (some ⟨(ga + 1), 0, none⟩)) := t3
      go_simp
      exact hK _ _ jE rfl (fun _ _ _ h => h)
    · refine stepL_plain rfl ?_
      rintro F a w1 jE ⟨h3, t18, -⟩ - K hK
      have h3 : (F 3) = .pointer (some ⟨(ga + 1), 3, none⟩) := h3
      rw [h3] at t18
      clear h3
      have c := (jE.blk hY (by simp)).cell
      go_simp
      exact hK _ _ jE rfl (fun _ _ _ h => h)
    · refine stepL_plain rfl ?_
      rintro F a w1 jE ⟨h4, t19, -⟩ - K hK
      have h4 : (F 4) = .int .i64 l3 := h4
      rw [h4] at t19
      clear h4
      go_simp
      with_reducible refine (minus_at _ l3 (unhide HZ3)).mono ?_
      rintro e w2 ⟨⟨v', rfl, hv⟩, hx⟩
      exact hK _ _ (jE.trans hx) (hv.eq (by omega)) (by intro jq hj uq h; have hj : jq ∈ [2] := hj; simp only [List.mem_singleton] at hj; subst hj; exact (have h : BigAt w1 uq (x) 64 := h; h.ext hx))
    · refine stepL_plain rfl ?_
      rintro F a w1 jE ⟨h2, t17, h5, t20, -⟩ - K hK
      have h2 : BigAt w1 (F 2) (x) 64 := h2
      have h5 : BigAt w1 (F 5) (-l3) 130 := h5
      go_simp
      with_reducible refine (add_at h2 h5 (by omega) (by omega)).mono ?_
      rintro e w2 ⟨⟨v', rfl, hv⟩, hx⟩
      exact hK _ _ (jE.trans hx) (hv.eq (by omega)) (fun _ hj _ _ => (List.not_mem_nil hj).elim)
    · refine stepL_plain rfl ?_
      rintro F a w1 jE ⟨h6, t21, -⟩ - K hK
      have h6 : BigAt w1 (F 6) (x - l3) (max 64 130 + 1) := h6
      go_simp
      with_reducible refine (c0 _ _ _ h6 (by omega)).mono ?_
      rintro e w2 ⟨rfl, hx⟩
      exact hK _ _ (jE.trans hx) (rfl) (fun _ hj _ _ => (List.not_mem_nil hj).elim)
    · refine stepL_plain rfl ?_
      rintro F a w1 jE ⟨h7, t22, -⟩ - K hK
      have h7 : (F 7) = (.tuple #[.int .i64 X0, .bool b0]) := h7
      rw [h7] at t22
      clear h7
      go_simp
      exact hK _ _ jE rfl (fun _ _ _ h => h)
    · refine stepL_plain rfl ?_
      rintro F a w1 jE ⟨h8, t14, -⟩ - K hK
      have h8 : (F 8) = (.tuple #[.int .i64 X0, .bool b0]) := h8
      rw [h8] at t14
      clear h8
      go_simp
      exact hK _ _ jE rfl (fun _ _ _ h => h)
    · refine stepL_plain rfl ?_
      rintro F a w1 jE ⟨h8, t14, -⟩ - K hK
      have h8 : (F 8) = (.tuple #[.int .i64 X0, .bool b0]) := h8
      rw [h8] at t14
      clear h8
      go_simp
      exact hK _ _ jE rfl (fun _ _ _ h => h)
    · refine stepL_plain rfl ?_
      rintro F a w1 jE ⟨h9, t23, -⟩ - K hK
      have h9 : (F 9) = .int .i64 X0 := h9
      rw [h9] at t23
      clear h9
      go_simp
      exact hK _ _ jE rfl (fun _ _ _ h => h)
    · refine stepL_plain rfl ?_
      rintro F a w1 jE ⟨h10, t24, -⟩ - K hK
      have h10 : (F 10) = .bool b0 := h10
      rw [h10] at t24
      clear h10
      go_simp
      exact hK _ _ jE rfl (fun _ _ _ h => h)
  · rintro F W1 jE ⟨h11, h12, -⟩
    have h11 : (F 11) = .int .i64 X0 := h11
    have h12 : (F 12) = .bool b0 := h12
    have E1 : Ext w W1 := jE.ext E0 (by simp)
    replace hP := jE.blk hP (by simp)
    replace hY := jE.blk hY (by simp)
    replace hO := jE.blk hO (by simp)
    simp only [putL, Act.put, Nat.reduceAdd, Nat.zero_add, List.setIfInBounds_toArray, List.set_cons_succ, List.set_cons_zero]
    rw [h11, h12]
    clear h11 h12 jE E0 lO
    have lO := hO.lt
    go_upto_region 2 with fail
    refine wp_region_lin (by kernel_rfl) (fun w' => (ExtX W1 w' [])) (fun ii vv ww => match ii with | 0 => vv = .pointer (some ⟨ga, 1, none⟩) | 1 => vv = .int .i64 y | 2 => BigAt ww vv (y) 64 | 3 => vv = .pointer (some ⟨(ga + 1), 0, none⟩) | 4 => vv = .int .i64 l0 | 5 => BigAt ww vv (-l0) 130 | 6 => BigAt ww vv (y - l0) (max 64 130 + 1) | 7 => vv = (.tuple #[.int .i64 X1, .bool b1]) | 8 => vv = (.tuple #[.int .i64 X1, .bool b1]) | 9 => vv = .int .i64 X1 | 10 => vv = .bool b1 | 11 => vv = .int .i64 X1 | 12 => vv = .bool b1 | _ => True) (fun ii => match ii with | 1 => [(0, 26)] | 2 => [(1, 27)] | 4 => [(3, 29)] | 5 => [(4, 30)] | 6 => [(2, 28), (5, 31)] | 7 => [(6, 32)] | 8 => [(7, 33)] | 9 => [(8, 25)] | 10 => [(8, 25)] | 11 => [(9, 34)] | 12 => [(10, 35)] | _ => []) (fun ii => match ii with | 0 => [2] | 3 => [3] | _ => []) (fun ii => match ii with | 0 => [3, 4] | 1 => [3, 4] | 2 => [3, 4] | 3 => [0, 1, 2] | 4 => [0, 1, 2] | 5 => [2] | 9 => [8, 10] | 10 => [8, 9, 11] | 11 => [8, 10] | 12 => [11] | _ => []) [11, 12] [0, 1, 3, 0, 8, 31, 63, 127, 255, 511, 511, 1023, 4095] 77 rfl (by kernel_rfl) (ExtX.start _ _) ?_ ?_
    · rename_i hcont; clear hcont
      refine ⟨?_, ?_, ?_, ?_, ?_, ?_, ?_, ?_, ?_, ?_, ?_, ?_, ?_, trivial⟩
      · refine stepL_plain rfl ?_
        rintro F a w1 jE - ⟨t2, -⟩ K hK
        have t2 : a.tmps[2]? = some (.pointer (some ⟨ga, 0, none⟩)) := t2
        go_simp
        exact hK _ _ jE rfl (fun _ _ _ h => h)
      · refine stepL_plain rfl ?_
        rintro F a w1 jE ⟨h0, t26, -⟩ - K hK
        have h0 : (F 0) = .pointer (some ⟨ga, 1, none⟩) := h0
        rw [h0] at t26
        clear h0
        have c := (jE.blk hP (by simp)).cell
        go_simp
        exact hK _ _ jE rfl (fun _ _ _ h => h)
      · refine stepL_plain rfl ?_
        rintro F a w1 jE ⟨h1, t27, -⟩ - K hK
        have h1 : (F 1) = .int .i64 y := h1
        rw [h1] at t27
        clear h1
        go_simp
        with_reducible refine (of_at _ y (unhide HY)).mono ?_
        rintro e w2 ⟨⟨v', rfl, hv⟩, hx⟩
        exact hK _ _ (jE.trans hx) (hv.eq (by omega)) (by intro jq hj uq h; have hj : jq ∈ [3, 4] := hj; simp only [List.mem_cons, List.not_mem_nil, or_false] at hj; rcases hj with rfl | rfl; exact h; exact h)
      · refine stepL_plain rfl ?_
        rintro F a w1 jE - ⟨t3, -⟩ K hK
        have t3 : a.tmps[3]? = some (.pointer (some ⟨(ga + 1), 0, none⟩)) := t3
        go_simp
        exact hK _ _ jE rfl (fun _ _ _ h => h)
      · refine stepL_plain rfl ?_
        rintro F a w1 jE ⟨h3, t29, -⟩ - K hK
        have h3 : (F 3) = .pointer (some ⟨(ga + 1), 0, none⟩) := h3
        rw [h3] at t29
        clear h3
        have c := (jE.blk hY (by simp)).cell
        go_simp
        exact hK _ _ jE rfl (fun _ _ _ h => h)
      · refine stepL_plain rfl ?_
        rintro F a w1 jE ⟨h4, t30, -⟩ - K hK
        have h4 : (F 4) = .int .i64 l0 := h4
        rw [h4] at t30
        clear h4
        go_simp
        with_reducible refine (minus_at _ l0 (unhide HZ0)).mono ?_
        rintro e w2 ⟨⟨v', rfl, hv⟩, hx⟩
        exact hK _ _ (jE.trans hx) (hv.eq (by omega)) (by intro jq hj uq h; have hj : jq ∈ [2] := hj; simp only [List.mem_singleton] at hj; subst hj; exact (have h : BigAt w1 uq (y) 64 := h; h.ext hx))
      · refine stepL_plain rfl ?_
        rintro F a w1 jE ⟨h2, t28, h5, t31, -⟩ - K hK
        have h2 : BigAt w1 (F 2) (y) 64 := h2
        have h5 : BigAt w1 (F 5) (-l0) 130 := h5
        go_simp
        with_reducible refine (add_at h2 h5 (by omega) (by omega)).mono ?_
        rintro e w2 ⟨⟨v', rfl, hv⟩, hx⟩
        exact hK _ _ (jE.trans hx) (hv.eq (by omega)) (fun _ hj _ _ => (List.not_mem_nil hj).elim)
      · refine stepL_plain rfl ?_
        rintro F a w1 jE ⟨h6, t32, -⟩ - K hK
        have h6 : BigAt w1 (F 6) (y - l0) (max 64 130 + 1) := h6
        go_simp
        with_reducible refine (c1 _ _ _ h6 (by omega)).mono ?_
        rintro e w2 ⟨rfl, hx⟩
        exact hK _ _ (jE.trans hx) (rfl) (fun _ hj _ _ => (List.not_mem_nil hj).elim)
      · refine stepL_plain rfl ?_
        rintro F a w1 jE ⟨h7, t33, -⟩ - K hK
        have h7 : (F 7) = (.tuple #[.int .i64 X1, .bool b1]) := h7
        rw [h7] at t33
        clear h7
        go_simp
        exact hK _ _ jE rfl (fun _ _ _ h => h)
      · refine stepL_plain rfl ?_
        rintro F a w1 jE ⟨h8, t25, -⟩ - K hK
        have h8 : (F 8) = (.tuple #[.int .i64 X1, .bool b1]) := h8
        rw [h8] at t25
        clear h8
        go_simp
        exact hK _ _ jE rfl (fun _ _ _ h => h)
      · refine stepL_plain rfl ?_
        rintro F a w1 jE ⟨h8, t25, -⟩ - K hK
        have h8 : (F 8) = (.tuple #[.int .i64 X1, .bool b1]) := h8
        rw [h8] at t25
        clear h8
        go_simp
        exact hK _ _ jE rfl (fun _ _ _ h => h)
      · refine stepL_plain rfl ?_
        rintro F a w1 jE ⟨h9, t34, -⟩ - K hK
        have h9 : (F 9) = .int .i64 X1 := h9
        rw [h9] at t34
        clear h9
        go_simp
        exact hK _ _ jE rfl (fun _ _ _ h => h)
      · refine stepL_plain rfl ?_
        rintro F a w1 jE ⟨h10, t35, -⟩ - K hK
        have h10 : (F 10) = .bool b1 := h10
        rw [h10] at t35
        clear h10
        go_simp
        exact hK _ _ jE rfl (fun _ _ _ h => h)
    · rintro F W2 jE ⟨h11, h12, -⟩
      have h11 : (F 11) = .int .i64 X1 := h11
      have h12 : (F 12) = .bool b1 := h12
      have E2 : Ext w W2 := jE.ext E1 (by simp)
      replace hP := jE.blk hP (by simp)
      replace hY := jE.blk hY (by simp)
      replace hO := jE.blk hO (by simp)
      simp only [putL, Act.put, Nat.reduceAdd, Nat.zero_add, List.setIfInBounds_toArray, List.set_cons_succ, List.set_cons_zero]
      rw [h11, h12]
      clear h11 h12 jE E1 lO
      have lO := hO.lt
      go_upto_region 3 with fail
      refine wp_region_lin (by kernel_rfl) (fun w' => (ExtX W2 w' [])) (fun ii vv ww => match ii with | 0 => vv = .pointer (some ⟨ga, 2, none⟩) | 1 => vv = .int .i64 p | 2 => BigAt ww vv (p) 64 | 3 => vv = .pointer (some ⟨(ga + 1), 3, none⟩) | 4 => vv = .int .i64 l3 | 5 => vv = .pointer (some ⟨(ga + 1), 1, none⟩) | 6 => vv = .int .i64 l1 | 7 => BigAt ww vv (l3 + l1) 130 | 8 => BigAt ww vv (p + l3 + l1) (max 64 130 + 1) | 9 => vv = (.tuple #[.int .i64 X2, .bool b2]) | 10 => vv = (.tuple #[.int .i64 X2, .bool b2]) | 11 => vv = .int .i64 X2 | 12 => vv = .bool b2 | 13 => vv = .int .i64 X2 | 14 => vv = .bool b2 | _ => True) (fun ii => match ii with | 1 => [(0, 37)] | 2 => [(1, 38)] | 4 => [(3, 40)] | 6 => [(5, 42)] | 7 => [(4, 41), (6, 43)] | 8 => [(2, 39), (7, 44)] | 9 => [(8, 45)] | 10 => [(9, 46)] | 11 => [(10, 36)] | 12 => [(10, 36)] | 13 => [(11, 47)] | 14 => [(12, 48)] | _ => []) (fun ii => match ii with | 0 => [2] | 3 => [3] | 5 => [3] | _ => []) (fun ii => match ii with | 0 => [3, 5, 4, 6] | 1 => [3, 5, 4, 6] | 2 => [3, 5, 4, 6] | 3 => [0, 1, 5, 6, 2] | 4 => [0, 1, 5, 6, 2] | 5 => [0, 1, 3, 4, 2] | 6 => [0, 1, 3, 4, 2] | 7 => [2] | 11 => [10, 12] | 12 => [10, 11, 13] | 13 => [10, 12] | 14 => [13] | _ => []) [13, 14] [0, 1, 3, 0, 8, 0, 32, 127, 255, 511, 1023, 2047, 2047, 4095, 16383] 77 rfl (by kernel_rfl) (ExtX.start _ _) ?_ ?_
      · rename_i hcont; clear hcont
        refine ⟨?_, ?_, ?_, ?_, ?_, ?_, ?_, ?_, ?_, ?_, ?_, ?_, ?_, ?_, ?_, trivial⟩
        · refine stepL_plain rfl ?_
          rintro F a w1 jE - ⟨t2, -⟩ K hK
          have t2 : a.tmps[2]? = some (.pointer (some ⟨ga, 0, none⟩)) := t2
          go_simp
          exact hK _ _ jE rfl (fun _ _ _ h => h)
        · refine stepL_plain rfl ?_
          rintro F a w1 jE ⟨h0, t37, -⟩ - K hK
          have h0 : (F 0) = .pointer (some ⟨ga, 2, none⟩) := h0
          rw [h0] at t37
          clear h0
          have c := (jE.blk hP (by simp)).cell
          go_simp
          exact hK _ _ jE rfl (fun _ _ _ h => h)
        · refine stepL_plain rfl ?_
          rintro F a w1 jE ⟨h1, t38, -⟩ - K hK
          have h1 : (F 1) = .int .i64 p := h1
          rw [h1] at t38
          clear h1
          go_simp
          with_reducible refine (of_at _ p (unhide HP)).mono ?_
          rintro e w2 ⟨⟨v', rfl, hv⟩, hx⟩
          exact hK _ _ (jE.trans hx) (hv.eq (by omega)) (by intro jq hj uq h; have hj : jq ∈ [3, 5, 4, 6] := hj; simp only [List.mem_cons, List.not_mem_nil, or_false] at hj; rcases hj with rfl | rfl | rfl | rfl; exact h; exact h; exact h; exact h)
        · refine stepL_plain rfl ?_
          rintro F a w1 jE - ⟨t3, -⟩ K hK
          have t3 : a.tmps[3]? = some (.pointer (some ⟨(ga + 1), 0, none⟩)) := t3
          go_simp
          exact hK _ _ jE rfl (fun _ _ _ h => h)
        · refine stepL_plain rfl ?_
          rintro F a w1 jE ⟨h3, t40, -⟩ - K hK
          have h3 : (F 3) = .pointer (some ⟨(ga + 1), 3, none⟩) := h3
          rw [h3] at t40
          clear h3
          have c := (jE.blk hY (by simp)).cell
          go_simp
          exact hK _ _ jE rfl (fun _ _ _ h => h)
        · refine stepL_plain rfl ?_
          rintro F a w1 jE - ⟨t3, -⟩ K hK
          have t3 : a.tmps[3]? = some (.pointer (some ⟨(ga + 1), 0, none⟩)) := t3
          go_simp
          exact hK _ _ jE rfl (fun _ _ _ h => h)
        · refine stepL_plain rfl ?_
          rintro F a w1 jE ⟨h5, t42, -⟩ - K hK
          have h5 : (F 5) = .pointer (some ⟨(ga + 1), 1, none⟩) := h5
          rw [h5] at t42
          clear h5
          have c := (jE.blk hY (by simp)).cell
          go_simp
          exact hK _ _ jE rfl (fun _ _ _ h => h)
        · refine stepL_plain rfl ?_
          rintro F a w1 jE ⟨h4, t41, h6, t43, -⟩ - K hK
          have h4 : (F 4) = .int .i64 l3 := h4
          rw [h4] at t41
          clear h4
          have h6 : (F 6) = .int .i64 l1 := h6
          rw [h6] at t43
          clear h6
          go_simp
          with_reducible refine (add2_at _ l3 l1 (unhide HZ3) (unhide HZ1)).mono ?_
          rintro e w2 ⟨⟨v', rfl, hv⟩, hx⟩
          exact hK _ _ (jE.trans hx) (hv.eq (by omega)) (by intro jq hj uq h; have hj : jq ∈ [2] := hj; simp only [List.mem_singleton] at hj; subst hj; exact (have h : BigAt w1 uq (p) 64 := h; h.ext hx))
        · refine stepL_plain rfl ?_
          rintro F a w1 jE ⟨h2, t39, h7, t44, -⟩ - K hK
          have h2 : BigAt w1 (F 2) (p) 64 := h2
          have h7 : BigAt w1 (F 7) (l3 + l1) 130 := h7
          go_simp
          with_reducible refine (add_at h2 h7 (by omega) (by omega)).mono ?_
          rintro e w2 ⟨⟨v', rfl, hv⟩, hx⟩
          exact hK _ _ (jE.trans hx) (hv.eq (by omega)) (fun _ hj _ _ => (List.not_mem_nil hj).elim)
        · refine stepL_plain rfl ?_
          rintro F a w1 jE ⟨h8, t45, -⟩ - K hK
          have h8 : BigAt w1 (F 8) (p + l3 + l1) (max 64 130 + 1) := h8
          go_simp
          with_reducible refine (c2 _ _ _ h8 (by omega)).mono ?_
          rintro e w2 ⟨rfl, hx⟩
          exact hK _ _ (jE.trans hx) (rfl) (fun _ hj _ _ => (List.not_mem_nil hj).elim)
        · refine stepL_plain rfl ?_
          rintro F a w1 jE ⟨h9, t46, -⟩ - K hK
          have h9 : (F 9) = (.tuple #[.int .i64 X2, .bool b2]) := h9
          rw [h9] at t46
          clear h9
          go_simp
          exact hK _ _ jE rfl (fun _ _ _ h => h)
        · refine stepL_plain rfl ?_
          rintro F a w1 jE ⟨h10, t36, -⟩ - K hK
          have h10 : (F 10) = (.tuple #[.int .i64 X2, .bool b2]) := h10
          rw [h10] at t36
          clear h10
          go_simp
          exact hK _ _ jE rfl (fun _ _ _ h => h)
        · refine stepL_plain rfl ?_
          rintro F a w1 jE ⟨h10, t36, -⟩ - K hK
          have h10 : (F 10) = (.tuple #[.int .i64 X2, .bool b2]) := h10
          rw [h10] at t36
          clear h10
          go_simp
          exact hK _ _ jE rfl (fun _ _ _ h => h)
        · refine stepL_plain rfl ?_
          rintro F a w1 jE ⟨h11, t47, -⟩ - K hK
          have h11 : (F 11) = .int .i64 X2 := h11
          rw [h11] at t47
          clear h11
          go_simp
          exact hK _ _ jE rfl (fun _ _ _ h => h)
        · refine stepL_plain rfl ?_
          rintro F a w1 jE ⟨h12, t48, -⟩ - K hK
          have h12 : (F 12) = .bool b2 := h12
          rw [h12] at t48
          clear h12
          go_simp
          exact hK _ _ jE rfl (fun _ _ _ h => h)
      · rintro F W3 jE ⟨h13, h14, -⟩
        have h13 : (F 13) = .int .i64 X2 := h13
        have h14 : (F 14) = .bool b2 := h14
        have E3 : Ext w W3 := jE.ext E2 (by simp)
        replace hP := jE.blk hP (by simp)
        replace hY := jE.blk hY (by simp)
        replace hO := jE.blk hO (by simp)
        simp only [putL, Act.put, Nat.reduceAdd, Nat.zero_add, List.setIfInBounds_toArray, List.set_cons_succ, List.set_cons_zero]
        rw [h13, h14]
        clear h13 h14 jE E2 lO
        have lO := hO.lt
        go_upto_region 4 with fail
        refine wp_region_lin (by kernel_rfl) (fun w' => (ExtX W3 w' [])) (fun ii vv ww => match ii with | 0 => vv = .pointer (some ⟨ga, 3, none⟩) | 1 => vv = .int .i64 q | 2 => BigAt ww vv (q) 64 | 3 => vv = .pointer (some ⟨(ga + 1), 0, none⟩) | 4 => vv = .int .i64 l0 | 5 => vv = .pointer (some ⟨(ga + 1), 2, none⟩) | 6 => vv = .int .i64 l2 | 7 => BigAt ww vv (l0 + l2) 130 | 8 => BigAt ww vv (q + l0 + l2) (max 64 130 + 1) | 9 => vv = (.tuple #[.int .i64 X3, .bool b3]) | 10 => vv = (.tuple #[.int .i64 X3, .bool b3]) | 11 => vv = .int .i64 X3 | 12 => vv = .bool b3 | 13 => vv = .int .i64 X3 | 14 => vv = .bool b3 | _ => True) (fun ii => match ii with | 1 => [(0, 50)] | 2 => [(1, 51)] | 4 => [(3, 53)] | 6 => [(5, 55)] | 7 => [(4, 54), (6, 56)] | 8 => [(2, 52), (7, 57)] | 9 => [(8, 58)] | 10 => [(9, 59)] | 11 => [(10, 49)] | 12 => [(10, 49)] | 13 => [(11, 60)] | 14 => [(12, 61)] | _ => []) (fun ii => match ii with | 0 => [2] | 3 => [3] | 5 => [3] | _ => []) (fun ii => match ii with | 0 => [3, 5, 4, 6] | 1 => [3, 5, 4, 6] | 2 => [3, 5, 4, 6] | 3 => [0, 1, 5, 6, 2] | 4 => [0, 1, 5, 6, 2] | 5 => [0, 1, 3, 4, 2] | 6 => [0, 1, 3, 4, 2] | 7 => [2] | 11 => [10, 12] | 12 => [10, 11, 13] | 13 => [10, 12] | 14 => [13] | _ => []) [13, 14] [0, 1, 3, 0, 8, 0, 32, 127, 255, 511, 1023, 2047, 2047, 4095, 16383] 77 rfl (by kernel_rfl) (ExtX.start _ _) ?_ ?_
        · rename_i hcont; clear hcont
          refine ⟨?_, ?_, ?_, ?_, ?_, ?_, ?_, ?_, ?_, ?_, ?_, ?_, ?_, ?_, ?_, trivial⟩
          · refine stepL_plain rfl ?_
            rintro F a w1 jE - ⟨t2, -⟩ K hK
            have t2 : a.tmps[2]? = some (.pointer (some ⟨ga, 0, none⟩)) := t2
            go_simp
            exact hK _ _ jE rfl (fun _ _ _ h => h)
          · refine stepL_plain rfl ?_
            rintro F a w1 jE ⟨h0, t50, -⟩ - K hK
            have h0 : (F 0) = .pointer (some ⟨ga, 3, none⟩) := h0
            rw [h0] at t50
            clear h0
            have c := (jE.blk hP (by simp)).cell
            go_simp
            exact hK _ _ jE rfl (fun _ _ _ h => h)
          · refine stepL_plain rfl ?_
            rintro F a w1 jE ⟨h1, t51, -⟩ - K hK
            have h1 : (F 1) = .int .i64 q := h1
            rw [h1] at t51
            clear h1
            go_simp
            with_reducible refine (of_at _ q (unhide HQ)).mono ?_
            rintro e w2 ⟨⟨v', rfl, hv⟩, hx⟩
            exact hK _ _ (jE.trans hx) (hv.eq (by omega)) (by intro jq hj uq h; have hj : jq ∈ [3, 5, 4, 6] := hj; simp only [List.mem_cons, List.not_mem_nil, or_false] at hj; rcases hj with rfl | rfl | rfl | rfl; exact h; exact h; exact h; exact h)
          · refine stepL_plain rfl ?_
            rintro F a w1 jE - ⟨t3, -⟩ K hK
            have t3 : a.tmps[3]? = some (.pointer (some ⟨(ga + 1), 0, none⟩)) := t3
            go_simp
            exact hK _ _ jE rfl (fun _ _ _ h => h)
          · refine stepL_plain rfl ?_
            rintro F a w1 jE ⟨h3, t53, -⟩ - K hK
            have h3 : (F 3) = .pointer (some ⟨(ga + 1), 0, none⟩) := h3
            rw [h3] at t53
            clear h3
            have c := (jE.blk hY (by simp)).cell
            go_simp
            exact hK _ _ jE rfl (fun _ _ _ h => h)
          · refine stepL_plain rfl ?_
            rintro F a w1 jE - ⟨t3, -⟩ K hK
            have t3 : a.tmps[3]? = some (.pointer (some ⟨(ga + 1), 0, none⟩)) := t3
            go_simp
            exact hK _ _ jE rfl (fun _ _ _ h => h)
          · refine stepL_plain rfl ?_
            rintro F a w1 jE ⟨h5, t55, -⟩ - K hK
            have h5 : (F 5) = .pointer (some ⟨(ga + 1), 2, none⟩) := h5
            rw [h5] at t55
            clear h5
            have c := (jE.blk hY (by simp)).cell
            go_simp
            exact hK _ _ jE rfl (fun _ _ _ h => h)
          · refine stepL_plain rfl ?_
            rintro F a w1 jE ⟨h4, t54, h6, t56, -⟩ - K hK
            have h4 : (F 4) = .int .i64 l0 := h4
            rw [h4] at t54
            clear h4
            have h6 : (F 6) = .int .i64 l2 := h6
            rw [h6] at t56
            clear h6
            go_simp
            with_reducible refine (add2_at _ l0 l2 (unhide HZ0) (unhide HZ2)).mono ?_
            rintro e w2 ⟨⟨v', rfl, hv⟩, hx⟩
            exact hK _ _ (jE.trans hx) (hv.eq (by omega)) (by intro jq hj uq h; have hj : jq ∈ [2] := hj; simp only [List.mem_singleton] at hj; subst hj; exact (have h : BigAt w1 uq (q) 64 := h; h.ext hx))
          · refine stepL_plain rfl ?_
            rintro F a w1 jE ⟨h2, t52, h7, t57, -⟩ - K hK
            have h2 : BigAt w1 (F 2) (q) 64 := h2
            have h7 : BigAt w1 (F 7) (l0 + l2) 130 := h7
            go_simp
            with_reducible refine (add_at h2 h7 (by omega) (by omega)).mono ?_
            rintro e w2 ⟨⟨v', rfl, hv⟩, hx⟩
            exact hK _ _ (jE.trans hx) (hv.eq (by omega)) (fun _ hj _ _ => (List.not_mem_nil hj).elim)
          · refine stepL_plain rfl ?_
            rintro F a w1 jE ⟨h8, t58, -⟩ - K hK
            have h8 : BigAt w1 (F 8) (q + l0 + l2) (max 64 130 + 1) := h8
            go_simp
            with_reducible refine (c3 _ _ _ h8 (by omega)).mono ?_
            rintro e w2 ⟨rfl, hx⟩
            exact hK _ _ (jE.trans hx) (rfl) (fun _ hj _ _ => (List.not_mem_nil hj).elim)
          · refine stepL_plain rfl ?_
            rintro F a w1 jE ⟨h9, t59, -⟩ - K hK
            have h9 : (F 9) = (.tuple #[.int .i64 X3, .bool b3]) := h9
            rw [h9] at t59
            clear h9
            go_simp
            exact hK _ _ jE rfl (fun _ _ _ h => h)
          · refine stepL_plain rfl ?_
            rintro F a w1 jE ⟨h10, t49, -⟩ - K hK
            have h10 : (F 10) = (.tuple #[.int .i64 X3, .bool b3]) := h10
            rw [h10] at t49
            clear h10
            go_simp
            exact hK _ _ jE rfl (fun _ _ _ h => h)
          · refine stepL_plain rfl ?_
            rintro F a w1 jE ⟨h10, t49, -⟩ - K hK
            have h10 : (F 10) = (.tuple #[.int .i64 X3, .bool b3]) := h10
            rw [h10] at t49
            clear h10
            go_simp
            exact hK _ _ jE rfl (fun _ _ _ h => h)
          · refine stepL_plain rfl ?_
            rintro F a w1 jE ⟨h11, t60, -⟩ - K hK
            have h11 : (F 11) = .int .i64 X3 := h11
            rw [h11] at t60
            clear h11
            go_simp
            exact hK _ _ jE rfl (fun _ _ _ h => h)
          · refine stepL_plain rfl ?_
            rintro F a w1 jE ⟨h12, t61, -⟩ - K hK
            have h12 : (F 12) = .bool b3 := h12
            rw [h12] at t61
            clear h12
            go_simp
            exact hK _ _ jE rfl (fun _ _ _ h => h)
        · rintro F W4 jE ⟨h13, h14, -⟩
          have h13 : (F 13) = .int .i64 X3 := h13
          have h14 : (F 14) = .bool b3 := h14
          have E4 : Ext w W4 := jE.ext E3 (by simp)
          replace hP := jE.blk hP (by simp)
          replace hY := jE.blk hY (by simp)
          replace hO := jE.blk hO (by simp)
          simp only [putL, Act.put, Nat.reduceAdd, Nat.zero_add, List.setIfInBounds_toArray, List.set_cons_succ, List.set_cons_zero]
          rw [h13, h14]
          clear h13 h14 jE E3 lO
          have lO := hO.lt
          have dO := hO.cell
          have fO := hO.frozen
          clear c0 c1 c2 c3
          have hd : ∀ B : Bool, B = (b0 || b1 || b2 || b3) → True := fun _ _ => trivial
          clear hd
          cases b0
          case true =>
            go_wp2_with fail
            refine bodyPost_ret (results_cell_tmp rfl _ _ (ga + 1 + 1) 33 _ _ rfl ((((hO.set_ 0 _).set_ 1 _).set_ 2 _).set_ 3 _) Try.underlying33 rfl (by kernel_rfl)) rfl ⟨rfl, ?_⟩
            exact (((E4.set (by have := unhide HGA; simp; omega) _).set (by have := unhide HGA; simp; omega) _).set (by have := unhide HGA; simp; omega) _).set (by have := unhide HGA; simp; omega) _
          cases b1
          case true =>
            go_wp2_with fail
            refine bodyPost_ret (results_cell_tmp rfl _ _ (ga + 1 + 1) 33 _ _ rfl ((((hO.set_ 0 _).set_ 1 _).set_ 2 _).set_ 3 _) Try.underlying33 rfl (by kernel_rfl)) rfl ⟨rfl, ?_⟩
            exact (((E4.set (by have := unhide HGA; simp; omega) _).set (by have := unhide HGA; simp; omega) _).set (by have := unhide HGA; simp; omega) _).set (by have := unhide HGA; simp; omega) _
          cases b2
          case true =>
            go_wp2_with fail
            refine bodyPost_ret (results_cell_tmp rfl _ _ (ga + 1 + 1) 33 _ _ rfl ((((hO.set_ 0 _).set_ 1 _).set_ 2 _).set_ 3 _) Try.underlying33 rfl (by kernel_rfl)) rfl ⟨rfl, ?_⟩
            exact (((E4.set (by have := unhide HGA; simp; omega) _).set (by have := unhide HGA; simp; omega) _).set (by have := unhide HGA; simp; omega) _).set (by have := unhide HGA; simp; omega) _
          cases b3
          case true =>
            go_wp2_with fail
            refine bodyPost_ret (results_cell_tmp rfl _ _ (ga + 1 + 1) 33 _ _ rfl ((((hO.set_ 0 _).set_ 1 _).set_ 2 _).set_ 3 _) Try.underlying33 rfl (by kernel_rfl)) rfl ⟨rfl, ?_⟩
            exact (((E4.set (by have := unhide HGA; simp; omega) _).set (by have := unhide HGA; simp; omega) _).set (by have := unhide HGA; simp; omega) _).set (by have := unhide HGA; simp; omega) _
          go_wp2_with fail
          refine bodyPost_ret (results_cell_tmp rfl _ _ (ga + 1 + 1) 33 _ _ rfl ((((hO.set_ 0 _).set_ 1 _).set_ 2 _).set_ 3 _) Try.underlying33 rfl (by kernel_rfl)) rfl ⟨rfl, ?_⟩
          exact (((E4.set (by have := unhide HGA; simp; omega) _).set (by have := unhide HGA; simp; omega) _).set (by have := unhide HGA; simp; omega) _).set (by have := unhide HGA; simp; omega) _
end Go.Proofs.Ytphckjnmbbjenaa
