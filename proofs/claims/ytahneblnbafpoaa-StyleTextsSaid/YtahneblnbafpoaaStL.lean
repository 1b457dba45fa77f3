/- Styles: pointers to all lengths of a style (walk). -/
import Derived.Test.YtahneblnbafpoaaSp6
import Derived.Test.YtahneblnbafpoaaLinB
import Derived.Deep.Cut
namespace Go.Proofs.Ytahneblnbafpoaa
open Go.RowKit
@[reducible] def lensC (g : Nat) : Array Value := #[.pointer (some ⟨g, 4, none⟩), .pointer (some ⟨g, 6, none⟩), .pointer (some ⟨g, 8, none⟩), .pointer (some ⟨g, 10, none⟩), .pointer (some ⟨g, 12, none⟩), .pointer (some ⟨g, 14, none⟩), .pointer (some ⟨g, 40, none⟩), .pointer (some ⟨g, 16, none⟩), .pointer (some ⟨g, 18, none⟩), .pointer (some ⟨g, 20, none⟩), .pointer (some ⟨g, 22, none⟩)]
def lensO : Nat → Nat
  | 0 => 4
  | 1 => 6
  | 2 => 8
  | 3 => 10
  | 4 => 12
  | 5 => 14
  | 6 => 40
  | 7 => 16
  | 8 => 18
  | 9 => 20
  | _ => 22
theorem nat11 {k : Nat} (h : k < 11) : k = 0 ∨ k = 1 ∨ k = 2 ∨ k = 3 ∨ k = 4 ∨ k = 5 ∨ k = 6 ∨ k = 7 ∨ k = 8 ∨ k = 9 ∨ k = 10 := by omega
theorem lensC_at (g : Nat) {k : Nat} (h : k < 11) : (lensC g)[k]? = some (.pointer (some ⟨g, lensO k, none⟩)) := by
  rcases nat11 h with rfl | rfl | rfl | rfl | rfl | rfl | rfl | rfl | rfl | rfl | rfl <;> rfl
def LensOut (w : World) (g : Nat) (e : Ending) (w' : World) : Prop := ∃ gq, e = .returned (.slice (some ⟨gq, 0, none⟩) 11 11) ∧ Blk w' gq 38 (lensC g) ∧ w.heap.size ≤ gq ∧ Ext w w'
set_option maxRecDepth 100000 in
set_option maxHeartbeats 4000000 in
theorem lens_any (g : Nat) (wS : World) : Calls Try.prog 17 #[.pointer (some ⟨g, 0, none⟩)] wS (LensOut wS g) := by
  go_enter Try.func17, Try.ntmps17
  go_upto_region 1 with fail
  refine wp_region_lin (by kernel_rfl) (fun w' => (ExtX wS w' [])) (fun ii vv ww => match ii with | 0 => vv = .pointer (some ⟨g, 0, none⟩) | 1 => vv = .pointer (some ⟨g, 0, none⟩) | 2 => vv = .pointer (some ⟨g, 4, none⟩) | 3 => vv = .pointer (some ⟨g, 0, none⟩) | 4 => vv = .pointer (some ⟨g, 0, none⟩) | 5 => vv = .pointer (some ⟨g, 6, none⟩) | 6 => vv = .pointer (some ⟨g, 0, none⟩) | 7 => vv = .pointer (some ⟨g, 0, none⟩) | 8 => vv = .pointer (some ⟨g, 8, none⟩) | 9 => vv = .pointer (some ⟨g, 0, none⟩) | 10 => vv = .pointer (some ⟨g, 0, none⟩) | 11 => vv = .pointer (some ⟨g, 10, none⟩) | 12 => vv = .pointer (some ⟨g, 0, none⟩) | 13 => vv = .pointer (some ⟨g, 0, none⟩) | 14 => vv = .pointer (some ⟨g, 12, none⟩) | 15 => vv = .pointer (some ⟨g, 0, none⟩) | 16 => vv = .pointer (some ⟨g, 0, none⟩) | 17 => vv = .pointer (some ⟨g, 14, none⟩) | 18 => vv = .pointer (some ⟨g, 0, none⟩) | 19 => vv = .pointer (some ⟨g, 0, none⟩) | 20 => vv = .pointer (some ⟨g, 40, none⟩) | 21 => vv = .pointer (some ⟨g, 0, none⟩) | 22 => vv = .pointer (some ⟨g, 0, none⟩) | 23 => vv = .pointer (some ⟨g, 16, none⟩) | 24 => vv = .pointer (some ⟨g, 16, none⟩) | 25 => vv = .pointer (some ⟨g, 0, none⟩) | 26 => vv = .pointer (some ⟨g, 0, none⟩) | 27 => vv = .pointer (some ⟨g, 16, none⟩) | 28 => vv = .pointer (some ⟨g, 18, none⟩) | 29 => vv = .pointer (some ⟨g, 0, none⟩) | 30 => vv = .pointer (some ⟨g, 0, none⟩) | 31 => vv = .pointer (some ⟨g, 16, none⟩) | 32 => vv = .pointer (some ⟨g, 20, none⟩) | 33 => vv = .pointer (some ⟨g, 0, none⟩) | 34 => vv = .pointer (some ⟨g, 0, none⟩) | 35 => vv = .pointer (some ⟨g, 16, none⟩) | 36 => vv = .pointer (some ⟨g, 22, none⟩) | 37 => ∃ gq, vv = .slice (some ⟨gq, 0, none⟩) 11 11 ∧ Blk ww gq 38 (lensC g) ∧ wS.heap.size ≤ gq | 38 => ∃ gq, vv = .slice (some ⟨gq, 0, none⟩) 11 11 ∧ Blk ww gq 38 (lensC g) ∧ wS.heap.size ≤ gq | _ => True) (fun ii => match ii with | 1 => [(0, 3)] | 2 => [(1, 4)] | 4 => [(3, 6)] | 5 => [(4, 7)] | 7 => [(6, 9)] | 8 => [(7, 10)] | 10 => [(9, 12)] | 11 => [(10, 13)] | 13 => [(12, 15)] | 14 => [(13, 16)] | 16 => [(15, 18)] | 17 => [(16, 19)] | 19 => [(18, 21)] | 20 => [(19, 22)] | 22 => [(21, 24)] | 23 => [(22, 25)] | 24 => [(23, 26)] | 26 => [(25, 28)] | 27 => [(26, 29)] | 28 => [(27, 30)] | 30 => [(29, 32)] | 31 => [(30, 33)] | 32 => [(31, 34)] | 34 => [(33, 36)] | 35 => [(34, 37)] | 36 => [(35, 38)] | 37 => [(2, 5), (5, 8), (8, 11), (11, 14), (14, 17), (17, 20), (20, 23), (24, 27), (28, 31), (32, 35), (36, 39)] | 38 => [(37, 40)] | _ => []) (fun ii => match ii with | 0 => [0] | 3 => [0] | 6 => [0] | 9 => [0] | 12 => [0] | 15 => [0] | 18 => [0] | 21 => [0] | 25 => [0] | 29 => [0] | 33 => [0] | _ => []) (fun ii => match ii with | 0 => [3, 4, 6, 7, 9, 10, 12, 13, 15, 16, 18, 19, 21, 22, 23, 25, 26, 27, 29, 30, 31, 33, 34, 35, 5, 8, 11, 14, 17, 20, 24, 28, 32, 36] | 1 => [3, 4, 6, 7, 9, 10, 12, 13, 15, 16, 18, 19, 21, 22, 23, 25, 26, 27, 29, 30, 31, 33, 34, 35, 5, 8, 11, 14, 17, 20, 24, 28, 32, 36] | 2 => [3, 4, 6, 7, 9, 10, 12, 13, 15, 16, 18, 19, 21, 22, 23, 25, 26, 27, 29, 30, 31, 33, 34, 35, 5, 8, 11, 14, 17, 20, 24, 28, 32, 36] | 3 => [0, 1, 6, 7, 9, 10, 12, 13, 15, 16, 18, 19, 21, 22, 23, 25, 26, 27, 29, 30, 31, 33, 34, 35, 2, 8, 11, 14, 17, 20, 24, 28, 32, 36] | 4 => [0, 1, 6, 7, 9, 10, 12, 13, 15, 16, 18, 19, 21, 22, 23, 25, 26, 27, 29, 30, 31, 33, 34, 35, 2, 8, 11, 14, 17, 20, 24, 28, 32, 36] | 5 => [0, 1, 6, 7, 9, 10, 12, 13, 15, 16, 18, 19, 21, 22, 23, 25, 26, 27, 29, 30, 31, 33, 34, 35, 2, 8, 11, 14, 17, 20, 24, 28, 32, 36] | 6 => [0, 1, 3, 4, 9, 10, 12, 13, 15, 16, 18, 19, 21, 22, 23, 25, 26, 27, 29, 30, 31, 33, 34, 35, 2, 5, 11, 14, 17, 20, 24, 28, 32, 36] | 7 => [0, 1, 3, 4, 9, 10, 12, 13, 15, 16, 18, 19, 21, 22, 23, 25, 26, 27, 29, 30, 31, 33, 34, 35, 2, 5, 11, 14, 17, 20, 24, 28, 32, 36] | 8 => [0, 1, 3, 4, 9, 10, 12, 13, 15, 16, 18, 19, 21, 22, 23, 25, 26, 27, 29, 30, 31, 33, 34, 35, 2, 5, 11, 14, 17, 20, 24, 28, 32, 36] | 9 => [0, 1, 3, 4, 6, 7, 12, 13, 15, 16, 18, 19, 21, 22, 23, 25, 26, 27, 29, 30, 31, 33, 34, 35, 2, 5, 8, 14, 17, 20, 24, 28, 32, 36] | 10 => [0, 1, 3, 4, 6, 7, 12, 13, 15, 16, 18, 19, 21, 22, 23, 25, 26, 27, 29, 30, 31, 33, 34, 35, 2, 5, 8, 14, 17, 20, 24, 28, 32, 36] | 11 => [0, 1, 3, 4, 6, 7, 12, 13, 15, 16, 18, 19, 21, 22, 23, 25, 26, 27, 29, 30, 31, 33, 34, 35, 2, 5, 8, 14, 17, 20, 24, 28, 32, 36] | 12 => [0, 1, 3, 4, 6, 7, 9, 10, 15, 16, 18, 19, 21, 22, 23, 25, 26, 27, 29, 30, 31, 33, 34, 35, 2, 5, 8, 11, 17, 20, 24, 28, 32, 36] | 13 => [0, 1, 3, 4, 6, 7, 9, 10, 15, 16, 18, 19, 21, 22, 23, 25, 26, 27, 29, 30, 31, 33, 34, 35, 2, 5, 8, 11, 17, 20, 24, 28, 32, 36] | 14 => [0, 1, 3, 4, 6, 7, 9, 10, 15, 16, 18, 19, 21, 22, 23, 25, 26, 27, 29, 30, 31, 33, 34, 35, 2, 5, 8, 11, 17, 20, 24, 28, 32, 36] | 15 => [0, 1, 3, 4, 6, 7, 9, 10, 12, 13, 18, 19, 21, 22, 23, 25, 26, 27, 29, 30, 31, 33, 34, 35, 2, 5, 8, 11, 14, 20, 24, 28, 32, 36] | 16 => [0, 1, 3, 4, 6, 7, 9, 10, 12, 13, 18, 19, 21, 22, 23, 25, 26, 27, 29, 30, 31, 33, 34, 35, 2, 5, 8, 11, 14, 20, 24, 28, 32, 36] | 17 => [0, 1, 3, 4, 6, 7, 9, 10, 12, 13, 18, 19, 21, 22, 23, 25, 26, 27, 29, 30, 31, 33, 34, 35, 2, 5, 8, 11, 14, 20, 24, 28, 32, 36] | 18 => [0, 1, 3, 4, 6, 7, 9, 10, 12, 13, 15, 16, 21, 22, 23, 25, 26, 27, 29, 30, 31, 33, 34, 35, 2, 5, 8, 11, 14, 17, 24, 28, 32, 36] | 19 => [0, 1, 3, 4, 6, 7, 9, 10, 12, 13, 15, 16, 21, 22, 23, 25, 26, 27, 29, 30, 31, 33, 34, 35, 2, 5, 8, 11, 14, 17, 24, 28, 32, 36] | 20 => [0, 1, 3, 4, 6, 7, 9, 10, 12, 13, 15, 16, 21, 22, 23, 25, 26, 27, 29, 30, 31, 33, 34, 35, 2, 5, 8, 11, 14, 17, 24, 28, 32, 36] | 21 => [0, 1, 3, 4, 6, 7, 9, 10, 12, 13, 15, 16, 18, 19, 25, 26, 27, 29, 30, 31, 33, 34, 35, 2, 5, 8, 11, 14, 17, 20, 28, 32, 36] | 22 => [0, 1, 3, 4, 6, 7, 9, 10, 12, 13, 15, 16, 18, 19, 25, 26, 27, 29, 30, 31, 33, 34, 35, 2, 5, 8, 11, 14, 17, 20, 28, 32, 36] | 23 => [0, 1, 3, 4, 6, 7, 9, 10, 12, 13, 15, 16, 18, 19, 25, 26, 27, 29, 30, 31, 33, 34, 35, 2, 5, 8, 11, 14, 17, 20, 28, 32, 36] | 24 => [0, 1, 3, 4, 6, 7, 9, 10, 12, 13, 15, 16, 18, 19, 25, 26, 27, 29, 30, 31, 33, 34, 35, 2, 5, 8, 11, 14, 17, 20, 28, 32, 36] | 25 => [0, 1, 3, 4, 6, 7, 9, 10, 12, 13, 15, 16, 18, 19, 21, 22, 23, 29, 30, 31, 33, 34, 35, 2, 5, 8, 11, 14, 17, 20, 24, 32, 36] | 26 => [0, 1, 3, 4, 6, 7, 9, 10, 12, 13, 15, 16, 18, 19, 21, 22, 23, 29, 30, 31, 33, 34, 35, 2, 5, 8, 11, 14, 17, 20, 24, 32, 36] | 27 => [0, 1, 3, 4, 6, 7, 9, 10, 12, 13, 15, 16, 18, 19, 21, 22, 23, 29, 30, 31, 33, 34, 35, 2, 5, 8, 11, 14, 17, 20, 24, 32, 36] | 28 => [0, 1, 3, 4, 6, 7, 9, 10, 12, 13, 15, 16, 18, 19, 21, 22, 23, 29, 30, 31, 33, 34, 35, 2, 5, 8, 11, 14, 17, 20, 24, 32, 36] | 29 => [0, 1, 3, 4, 6, 7, 9, 10, 12, 13, 15, 16, 18, 19, 21, 22, 23, 25, 26, 27, 33, 34, 35, 2, 5, 8, 11, 14, 17, 20, 24, 28, 36] | 30 => [0, 1, 3, 4, 6, 7, 9, 10, 12, 13, 15, 16, 18, 19, 21, 22, 23, 25, 26, 27, 33, 34, 35, 2, 5, 8, 11, 14, 17, 20, 24, 28, 36] | 31 => [0, 1, 3, 4, 6, 7, 9, 10, 12, 13, 15, 16, 18, 19, 21, 22, 23, 25, 26, 27, 33, 34, 35, 2, 5, 8, 11, 14, 17, 20, 24, 28, 36] | 32 => [0, 1, 3, 4, 6, 7, 9, 10, 12, 13, 15, 16, 18, 19, 21, 22, 23, 25, 26, 27, 33, 34, 35, 2, 5, 8, 11, 14, 17, 20, 24, 28, 36] | 33 => [0, 1, 3, 4, 6, 7, 9, 10, 12, 13, 15, 16, 18, 19, 21, 22, 23, 25, 26, 27, 29, 30, 31, 2, 5, 8, 11, 14, 17, 20, 24, 28, 32] | 34 => [0, 1, 3, 4, 6, 7, 9, 10, 12, 13, 15, 16, 18, 19, 21, 22, 23, 25, 26, 27, 29, 30, 31, 2, 5, 8, 11, 14, 17, 20, 24, 28, 32] | 35 => [0, 1, 3, 4, 6, 7, 9, 10, 12, 13, 15, 16, 18, 19, 21, 22, 23, 25, 26, 27, 29, 30, 31, 2, 5, 8, 11, 14, 17, 20, 24, 28, 32] | 36 => [0, 1, 3, 4, 6, 7, 9, 10, 12, 13, 15, 16, 18, 19, 21, 22, 23, 25, 26, 27, 29, 30, 31, 2, 5, 8, 11, 14, 17, 20, 24, 28, 32] | _ => []) [38] [0, 1, 3, 0, 8, 24, 0, 64, 192, 0, 512, 1536, 0, 4096, 12288, 0, 32768, 98304, 0, 262144, 786432, 0, 2097152, 6291456, 14680064, 0, 33554432, 100663296, 234881024, 0, 536870912, 1610612736, 3758096384, 0, 8589934592, 25769803776, 60129542144, 137438953471, 274877906943] 41 rfl (by kernel_rfl) (ExtX.start _ _) ?_ ?_
  · rename_i hcont; clear hcont
    refine ⟨?_, ?_, ?_, ?_, ?_, ?_, ?_, ?_, ?_, ?_, ?_, ?_, ?_, ?_, ?_, ?_, ?_, ?_, ?_, ?_, ?_, ?_, ?_, ?_, ?_, ?_, ?_, ?_, ?_, ?_, ?_, ?_, ?_, ?_, ?_, ?_, ?_, ?_, ?_, trivial⟩
    · refine stepL_plain rfl ?_
      rintro F a w1 jE - ⟨t0, -⟩ K hK
      have t0 : a.tmps[0]? = some (.pointer (some ⟨g, 0, none⟩)) := t0
      go_simp
      exact hK _ _ jE rfl (fun _ _ _ h => h)
    · refine stepL_plain rfl ?_
      rintro F a w1 jE ⟨h0, t3, -⟩ - K hK
      have h0 : (F 0) = .pointer (some ⟨g, 0, none⟩) := h0
      rw [h0] at t3
      clear h0
      go_simp
      exact hK _ _ jE rfl (fun _ _ _ h => h)
    · refine stepL_plain rfl ?_
      rintro F a w1 jE ⟨h1, t4, -⟩ - K hK
      have h1 : (F 1) = .pointer (some ⟨g, 0, none⟩) := h1
      rw [h1] at t4
      clear h1
      go_simp
      exact hK _ _ jE rfl (fun _ _ _ h => h)
    · refine stepL_plain rfl ?_
      rintro F a w1 jE - ⟨t0, -⟩ K hK
      have t0 : a.tmps[0]? = some (.pointer (some ⟨g, 0, none⟩)) := t0
      go_simp
      exact hK _ _ jE rfl (fun _ _ _ h => h)
    · refine stepL_plain rfl ?_
      rintro F a w1 jE ⟨h3, t6, -⟩ - K hK
      have h3 : (F 3) = .pointer (some ⟨g, 0, none⟩) := h3
      rw [h3] at t6
      clear h3
      go_simp
      exact hK _ _ jE rfl (fun _ _ _ h => h)
    · refine stepL_plain rfl ?_
      rintro F a w1 jE ⟨h4, t7, -⟩ - K hK
      have h4 : (F 4) = .pointer (some ⟨g, 0, none⟩) := h4
      rw [h4] at t7
      clear h4
      go_simp
      exact hK _ _ jE rfl (fun _ _ _ h => h)
    · refine stepL_plain rfl ?_
      rintro F a w1 jE - ⟨t0, -⟩ K hK
      have t0 : a.tmps[0]? = some (.pointer (some ⟨g, 0, none⟩)) := t0
      go_simp
      exact hK _ _ jE rfl (fun _ _ _ h => h)
    · refine stepL_plain rfl ?_
      rintro F a w1 jE ⟨h6, t9, -⟩ - K hK
      have h6 : (F 6) = .pointer (some ⟨g, 0, none⟩) := h6
      rw [h6] at t9
      clear h6
      go_simp
      exact hK _ _ jE rfl (fun _ _ _ h => h)
    · refine stepL_plain rfl ?_
      rintro F a w1 jE ⟨h7, t10, -⟩ - K hK
      have h7 : (F 7) = .pointer (some ⟨g, 0, none⟩) := h7
      rw [h7] at t10
      clear h7
      go_simp
      exact hK _ _ jE rfl (fun _ _ _ h => h)
    · refine stepL_plain rfl ?_
      rintro F a w1 jE - ⟨t0, -⟩ K hK
      have t0 : a.tmps[0]? = some (.pointer (some ⟨g, 0, none⟩)) := t0
      go_simp
      exact hK _ _ jE rfl (fun _ _ _ h => h)
    · refine stepL_plain rfl ?_
      rintro F a w1 jE ⟨h9, t12, -⟩ - K hK
      have h9 : (F 9) = .pointer (some ⟨g, 0, none⟩) := h9
      rw [h9] at t12
      clear h9
      go_simp
      exact hK _ _ jE rfl (fun _ _ _ h => h)
    · refine stepL_plain rfl ?_
      rintro F a w1 jE ⟨h10, t13, -⟩ - K hK
      have h10 : (F 10) = .pointer (some ⟨g, 0, none⟩) := h10
      rw [h10] at t13
      clear h10
      go_simp
      exact hK _ _ jE rfl (fun _ _ _ h => h)
    · refine stepL_plain rfl ?_
      rintro F a w1 jE - ⟨t0, -⟩ K hK
      have t0 : a.tmps[0]? = some (.pointer (some ⟨g, 0, none⟩)) := t0
      go_simp
      exact hK _ _ jE rfl (fun _ _ _ h => h)
    · refine stepL_plain rfl ?_
      rintro F a w1 jE ⟨h12, t15, -⟩ - K hK
      have h12 : (F 12) = .pointer (some ⟨g, 0, none⟩) := h12
      rw [h12] at t15
      clear h12
      go_simp
      exact hK _ _ jE rfl (fun _ _ _ h => h)
    · refine stepL_plain rfl ?_
      rintro F a w1 jE ⟨h13, t16, -⟩ - K hK
      have h13 : (F 13) = .pointer (some ⟨g, 0, none⟩) := h13
      rw [h13] at t16
      clear h13
      go_simp
      exact hK _ _ jE rfl (fun _ _ _ h => h)
    · refine stepL_plain rfl ?_
      rintro F a w1 jE - ⟨t0, -⟩ K hK
      have t0 : a.tmps[0]? = some (.pointer (some ⟨g, 0, none⟩)) := t0
      go_simp
      exact hK _ _ jE rfl (fun _ _ _ h => h)
    · refine stepL_plain rfl ?_
      rintro F a w1 jE ⟨h15, t18, -⟩ - K hK
      have h15 : (F 15) = .pointer (some ⟨g, 0, none⟩) := h15
      rw [h15] at t18
      clear h15
      go_simp
      exact hK _ _ jE rfl (fun _ _ _ h => h)
    · refine stepL_plain rfl ?_
      rintro F a w1 jE ⟨h16, t19, -⟩ - K hK
      have h16 : (F 16) = .pointer (some ⟨g, 0, none⟩) := h16
      rw [h16] at t19
      clear h16
      go_simp
      exact hK _ _ jE rfl (fun _ _ _ h => h)
    · refine stepL_plain rfl ?_
      rintro F a w1 jE - ⟨t0, -⟩ K hK
      have t0 : a.tmps[0]? = some (.pointer (some ⟨g, 0, none⟩)) := t0
      go_simp
      exact hK _ _ jE rfl (fun _ _ _ h => h)
    · refine stepL_plain rfl ?_
      rintro F a w1 jE ⟨h18, t21, -⟩ - K hK
      have h18 : (F 18) = .pointer (some ⟨g, 0, none⟩) := h18
      rw [h18] at t21
      clear h18
      go_simp
      exact hK _ _ jE rfl (fun _ _ _ h => h)
    · refine stepL_plain rfl ?_
      rintro F a w1 jE ⟨h19, t22, -⟩ - K hK
      have h19 : (F 19) = .pointer (some ⟨g, 0, none⟩) := h19
      rw [h19] at t22
      clear h19
      go_simp
      exact hK _ _ jE rfl (fun _ _ _ h => h)
    · refine stepL_plain rfl ?_
      rintro F a w1 jE - ⟨t0, -⟩ K hK
      have t0 : a.tmps[0]? = some (.pointer (some ⟨g, 0, none⟩)) := t0
      go_simp
      exact hK _ _ jE rfl (fun _ _ _ h => h)
    · refine stepL_plain rfl ?_
      rintro F a w1 jE ⟨h21, t24, -⟩ - K hK
      have h21 : (F 21) = .pointer (some ⟨g, 0, none⟩) := h21
      rw [h21] at t24
      clear h21
      go_simp
      exact hK _ _ jE rfl (fun _ _ _ h => h)
    · refine stepL_plain rfl ?_
      rintro F a w1 jE ⟨h22, t25, -⟩ - K hK
      have h22 : (F 22) = .pointer (some ⟨g, 0, none⟩) := h22
      rw [h22] at t25
      clear h22
      go_simp
      exact hK _ _ jE rfl (fun _ _ _ h => h)
    · refine stepL_plain rfl ?_
      rintro F a w1 jE ⟨h23, t26, -⟩ - K hK
      have h23 : (F 23) = .pointer (some ⟨g, 16, none⟩) := h23
      rw [h23] at t26
      clear h23
      go_simp
      exact hK _ _ jE rfl (fun _ _ _ h => h)
    · refine stepL_plain rfl ?_
      rintro F a w1 jE - ⟨t0, -⟩ K hK
      have t0 : a.tmps[0]? = some (.pointer (some ⟨g, 0, none⟩)) := t0
      go_simp
      exact hK _ _ jE rfl (fun _ _ _ h => h)
    · refine stepL_plain rfl ?_
      rintro F a w1 jE ⟨h25, t28, -⟩ - K hK
      have h25 : (F 25) = .pointer (some ⟨g, 0, none⟩) := h25
      rw [h25] at t28
      clear h25
      go_simp
      exact hK _ _ jE rfl (fun _ _ _ h => h)
    · refine stepL_plain rfl ?_
      rintro F a w1 jE ⟨h26, t29, -⟩ - K hK
      have h26 : (F 26) = .pointer (some ⟨g, 0, none⟩) := h26
      rw [h26] at t29
      clear h26
      go_simp
      exact hK _ _ jE rfl (fun _ _ _ h => h)
    · refine stepL_plain rfl ?_
      rintro F a w1 jE ⟨h27, t30, -⟩ - K hK
      have h27 : (F 27) = .pointer (some ⟨g, 16, none⟩) := h27
      rw [h27] at t30
      clear h27
      go_simp
      exact hK _ _ jE rfl (fun _ _ _ h => h)
    · refine stepL_plain rfl ?_
      rintro F a w1 jE - ⟨t0, -⟩ K hK
      have t0 : a.tmps[0]? = some (.pointer (some ⟨g, 0, none⟩)) := t0
      go_simp
      exact hK _ _ jE rfl (fun _ _ _ h => h)
    · refine stepL_plain rfl ?_
      rintro F a w1 jE ⟨h29, t32, -⟩ - K hK
      have h29 : (F 29) = .pointer (some ⟨g, 0, none⟩) := h29
      rw [h29] at t32
      clear h29
      go_simp
      exact hK _ _ jE rfl (fun _ _ _ h => h)
    · refine stepL_plain rfl ?_
      rintro F a w1 jE ⟨h30, t33, -⟩ - K hK
      have h30 : (F 30) = .pointer (some ⟨g, 0, none⟩) := h30
      rw [h30] at t33
      clear h30
      go_simp
      exact hK _ _ jE rfl (fun _ _ _ h => h)
    · refine stepL_plain rfl ?_
      rintro F a w1 jE ⟨h31, t34, -⟩ - K hK
      have h31 : (F 31) = .pointer (some ⟨g, 16, none⟩) := h31
      rw [h31] at t34
      clear h31
      go_simp
      exact hK _ _ jE rfl (fun _ _ _ h => h)
    · refine stepL_plain rfl ?_
      rintro F a w1 jE - ⟨t0, -⟩ K hK
      have t0 : a.tmps[0]? = some (.pointer (some ⟨g, 0, none⟩)) := t0
      go_simp
      exact hK _ _ jE rfl (fun _ _ _ h => h)
    · refine stepL_plain rfl ?_
      rintro F a w1 jE ⟨h33, t36, -⟩ - K hK
      have h33 : (F 33) = .pointer (some ⟨g, 0, none⟩) := h33
      rw [h33] at t36
      clear h33
      go_simp
      exact hK _ _ jE rfl (fun _ _ _ h => h)
    · refine stepL_plain rfl ?_
      rintro F a w1 jE ⟨h34, t37, -⟩ - K hK
      have h34 : (F 34) = .pointer (some ⟨g, 0, none⟩) := h34
      rw [h34] at t37
      clear h34
      go_simp
      exact hK _ _ jE rfl (fun _ _ _ h => h)
    · refine stepL_plain rfl ?_
      rintro F a w1 jE ⟨h35, t38, -⟩ - K hK
      have h35 : (F 35) = .pointer (some ⟨g, 16, none⟩) := h35
      rw [h35] at t38
      clear h35
      go_simp
      exact hK _ _ jE rfl (fun _ _ _ h => h)
    · refine stepL_plain rfl ?_
      rintro F a w1 jE ⟨h2, t5, h5, t8, h8, t11, h11, t14, h14, t17, h17, t20, h20, t23, h24, t27, h28, t31, h32, t35, h36, t39, -⟩ - K hK
      have h2 : (F 2) = .pointer (some ⟨g, 4, none⟩) := h2
      rw [h2] at t5
      clear h2
      have h5 : (F 5) = .pointer (some ⟨g, 6, none⟩) := h5
      rw [h5] at t8
      clear h5
      have h8 : (F 8) = .pointer (some ⟨g, 8, none⟩) := h8
      rw [h8] at t11
      clear h8
      have h11 : (F 11) = .pointer (some ⟨g, 10, none⟩) := h11
      rw [h11] at t14
      clear h11
      have h14 : (F 14) = .pointer (some ⟨g, 12, none⟩) := h14
      rw [h14] at t17
      clear h14
      have h17 : (F 17) = .pointer (some ⟨g, 14, none⟩) := h17
      rw [h17] at t20
      clear h17
      have h20 : (F 20) = .pointer (some ⟨g, 40, none⟩) := h20
      rw [h20] at t23
      clear h20
      have h24 : (F 24) = .pointer (some ⟨g, 16, none⟩) := h24
      rw [h24] at t27
      clear h24
      have h28 : (F 28) = .pointer (some ⟨g, 18, none⟩) := h28
      rw [h28] at t31
      clear h28
      have h32 : (F 32) = .pointer (some ⟨g, 20, none⟩) := h32
      rw [h32] at t35
      clear h32
      have h36 : (F 36) = .pointer (some ⟨g, 22, none⟩) := h36
      rw [h36] at t39
      clear h36
      go_simp
      have hx : Ext w1 (w1.alloc (.cells (lensC g) 38)) := (Ext.refl _).alloc _
      exact hK _ _ (jE.trans hx) (⟨_, rfl, Blk.new _ _ _, jE.size⟩) (fun _ hj _ _ => (List.not_mem_nil hj).elim)
    · refine stepL_plain rfl ?_
      rintro F a w1 jE ⟨h37, t40, -⟩ - K hK
      have h37 : ∃ gq, (F 37) = .slice (some ⟨gq, 0, none⟩) 11 11 ∧ Blk w1 gq 38 (lensC g) ∧ wS.heap.size ≤ gq := h37
      obtain ⟨gq, hv, hB⟩ := h37
      rw [hv] at t40
      go_simp
      exact hK _ _ jE ⟨gq, rfl, hB⟩ (fun _ _ _ h => h)
  · rintro F w9 jE ⟨h38, -⟩
    have h38 : ∃ gq, (F 38) = .slice (some ⟨gq, 0, none⟩) 11 11 ∧ Blk w9 gq 38 (lensC g) ∧ wS.heap.size ≤ gq := h38
    have hx := jE.ext (Ext.refl _) (by simp)
    clear jE
    obtain ⟨gq, hq, hB, hge⟩ := h38
    simp only [putL, Act.put, Nat.reduceAdd, Nat.zero_add, List.setIfInBounds_toArray, List.set_cons_succ, List.set_cons_zero]
    rw [hq]
    clear hq
    go_wp2_with fail
    go_ret
    exact ⟨gq, rfl, hB, hge, hx⟩
end Go.Proofs.Ytahneblnbafpoaa
