/- Styles: the anchor (walk). -/
import Derived.Test.YtahneblnbafpoaaStF
import Derived.Test.YtahneblnbafpoaaSp6
import Derived.Test.YtahneblnbafpoaaLinB
import Derived.Deep.Cut
namespace Go.Proofs.Ytahneblnbafpoaa
open Go.RowKit
/-- a style of a kind, a width and units -/
@[reducible] def stk (k : Int) (l : Ln) (ua : Option Addr) (ul uc : Nat) : Sty := ⟨k, false, 0, 0, l, ⟨0, 0⟩, ⟨0, 0⟩, ⟨0, 0⟩, ⟨0, 0⟩, ⟨0, 0⟩, ⟨0, 0⟩, ⟨0, 0⟩, ⟨0, 0⟩, ⟨0, 0⟩, 0, 0, 0, 0, 0, 0, 0, 0, 0, 0, false, 0, 0, 0, 0, 0, ⟨0, 0⟩, ua, ul, uc⟩
set_option maxHeartbeats 1000000 in
theorem px4_any (n : Int) (w : World) : Calls Try.prog 18 #[.int .i64 n] w fun e w' => e = .returned (Ln.v ⟨1, n⟩) ∧ Ext w w' := by
  go_enter Try.func18, Try.ntmps18
  go_wp2
  go_returns
  exact ⟨rfl, (Ext.refl _).alloc _⟩
theorem right_b (s : Sty) : prightV s = (if s.kind = 1 ∨ s.kind = 2 then boxV s else if s.kind = 3 then emptyV s && decide (s.ul ≤ 65536) else false) := right_eq s
theorem rk_1 : prightV (stk 1 ⟨0, 0⟩ none 0 0) = true := by
  rw [right_eq]; simp [rightV, boxV, mgV_all, wdV_all, hgV_all, flagsV, mgOk, hgOk, mayV, mgL, bdN, pdN, hgL]
theorem rk_3 (A : Option Addr) (n c : Nat) (h : n ≤ 65536) : prightV (stk 3 ⟨0, 0⟩ A n c) = true := by
  rw [right_eq]; simp [rightV, emptyV, zbV_all, zlV_all, flags0, zbOk, zlOk, bdN, pdN, h]
theorem rk_4 : prightV (stk 4 ⟨0, 0⟩ none 0 0) = false := by
  rw [right_eq]; simp [rightV]
theorem rk_px : prightV (stk 1 ⟨1, -1⟩ none 0 0) = false := by
  rw [right_eq]; simp [rightV, boxV, mgV_all, wdV_all, hgV_all, flagsV, mgOk, hgOk, mayV, mgL, bdN, pdN, hgL]
theorem wk_r1 (w : World) : Calls Try.prog 10 #[.agg (stk 1 ⟨0, 0⟩ none 0 0).cells] w fun e w' => e = .returned (.bool true) ∧ Ext w w' := by
  have h := pright_any (stk 1 ⟨0, 0⟩ none 0 0) w; rwa [rk_1] at h
theorem wk_r3 (A : Option Addr) (n c : Nat) (hn : n ≤ 65536) (w : World) : Calls Try.prog 10 #[.agg (stk 3 ⟨0, 0⟩ A n c).cells] w fun e w' => e = .returned (.bool true) ∧ Ext w w' := by
  have h := pright_any (stk 3 ⟨0, 0⟩ A n c) w; rwa [rk_3 A n c hn] at h
theorem wk_r4 (w : World) : Calls Try.prog 10 #[.agg (stk 4 ⟨0, 0⟩ none 0 0).cells] w fun e w' => e = .returned (.bool false) ∧ Ext w w' := by
  have h := pright_any (stk 4 ⟨0, 0⟩ none 0 0) w; rwa [rk_4] at h
theorem wk_rp (w : World) : Calls Try.prog 10 #[.agg (stk 1 ⟨1, -1⟩ none 0 0).cells] w fun e w' => e = .returned (.bool false) ∧ Ext w w' := by
  have h := pright_any (stk 1 ⟨1, -1⟩ none 0 0) w; rwa [rk_px] at h
theorem wk_of (w : World) : Calls Try.prog 13 #[Ln.v ⟨2, 5000⟩, .int .i64 7] w fun e w' => e = .returned (.tuple #[.int .i64 3, .bool false, .bool false]) ∧ Ext w w' := by
  have h := pof_any ⟨2, 5000⟩ 7 (by constructor <;> decide) (by constructor <;> decide) w
  exact h
theorem wk_size (w : World) : Calls Try.prog 15 #[Ln.v ⟨1, 5⟩, Ln.v ⟨1, 8⟩, Ln.v ⟨1, 6⟩, .int .i64 0] w fun e w' => e = .returned (.tuple #[.int .i64 8, .bool false, .bool false]) ∧ Ext w w' := by
  have h := psize_any ⟨1, 5⟩ ⟨1, 8⟩ ⟨1, 6⟩ 0 (by constructor <;> decide) (by constructor <;> decide) (by constructor <;> decide) (by constructor <;> decide) w
  have e1 : sizeN ⟨1, 5⟩ ⟨1, 8⟩ ⟨1, 6⟩ 0 = 8 := by decide
  have e2 : sizeB ⟨1, 5⟩ ⟨1, 8⟩ ⟨1, 6⟩ 0 = false := by decide
  rw [e1, e2] at h
  exact h
set_option maxRecDepth 100000 in
set_option maxHeartbeats 8000000 in
theorem works_any (w : World) : Calls Try.prog 9 #[] w fun e w' => e = .returned (.bool true) ∧ Ext w w' := by
  go_enter Try.func9, Try.ntmps9
  go_wp2_with fail
  refine (wk_of _).mono ?_
  rintro e w1 ⟨rfl, E1⟩
  go_wp2_with fail
  refine (px4_any 5 _).mono ?_
  rintro e w2 ⟨rfl, hx⟩
  replace E1 := E1.trans hx
  clear hx
  go_wp2_with fail
  refine (px4_any 8 _).mono ?_
  rintro e w3 ⟨rfl, hx⟩
  replace E1 := E1.trans hx
  clear hx
  go_wp2_with fail
  refine (px4_any 6 _).mono ?_
  rintro e w4 ⟨rfl, hx⟩
  replace E1 := E1.trans hx
  clear hx
  go_wp2_with fail
  refine (wk_size _).mono ?_
  rintro e w5 ⟨rfl, hx⟩
  replace E1 := E1.trans hx
  clear hx
  go_upto_region 3 with fail
  refine wp_region_lin0 (fun w' => (ExtX w5 w' [])) (fun ii vv ww => match ii with | 0 => vv = (.agg (stk 1 ⟨0, 0⟩ none 0 0).cells) | 1 => vv = .bool true | 2 => vv = .bool true | 3 => ∃ gq, vv = .slice (some ⟨gq, 0, none⟩) 1 1 | 4 => ∃ gq, vv = .agg (stk 3 ⟨0, 0⟩ (some ⟨gq, 0, none⟩) 1 1).cells | 5 => vv = .bool true | 6 => vv = .bool true | 7 => vv = .bool true | _ => True) (fun ii => match ii with | 1 => [(0, 22)] | 2 => [(1, 23)] | 3 => [(2, 24)] | 4 => [(3, 25), (2, 24)] | 5 => [(4, 26), (2, 24)] | 6 => [(2, 24), (5, 27)] | 7 => [(6, 28)] | _ => []) (fun _ => []) (fun ii => match ii with | 3 => [2] | 4 => [2] | 5 => [2] | _ => []) [7] [0, 1, 3, 7, 15, 31, 63, 127] 61 rfl (by kernel_rfl) (ExtX.refl _ _) ?_ ?_
  · rename_i hcont; clear hcont
    refine ⟨?_, ?_, ?_, ?_, ?_, ?_, ?_, ?_, trivial⟩
    · refine stepL_plain rfl ?_
      rintro F a w1 jE - - K hK
      refine wp_buildTo 28 _ rfl (stk 1 ⟨0, 0⟩ none 0 0).cells (by simp only [List.map_toArray, List.map_cons, List.map_nil]; kernel_rfl) ?_
      exact hK _ _ jE rfl (fun _ _ _ h => h)
    · refine stepL_plain rfl ?_
      rintro F a w1 jE ⟨h0, t22, -⟩ - K hK
      have h0 : (F 0) = (.agg (stk 1 ⟨0, 0⟩ none 0 0).cells) := h0
      rw [h0] at t22
      clear h0
      go_simp
      with_reducible refine (wk_r1 _).mono ?_
      rintro e w2 ⟨rfl, hx⟩
      exact hK _ _ (jE.trans hx) (rfl) (fun _ hj _ _ => (List.not_mem_nil hj).elim)
    · refine stepL_plain rfl ?_
      rintro F a w1 jE ⟨h1, t23, -⟩ - K hK
      have h1 : (F 1) = .bool true := h1
      rw [h1] at t23
      clear h1
      go_simp
      exact hK _ _ jE rfl (fun _ _ _ h => h)
    · refine stepL_of ?_
      rintro F a w1 jE ⟨h2, t24, -⟩ - K hK
      have h2 : (F 2) = .bool true := h2
      rw [h2] at t24
      clear h2
      refine stepY ((wanted_of 2 true 24 _ rfl rfl t24).trans rfl) ?_
      go_simp
      have hx : Ext w1 (w1.alloc (.cells #[.int .u16 97] 36)) := (Ext.refl _).alloc _
      exact hK _ _ (jE.trans hx) (⟨_, rfl⟩) (by intro jq hj uq h; have hj : jq ∈ [2] := hj; simp only [List.mem_singleton] at hj; subst hj; exact h)
    · refine stepL_of ?_
      rintro F a w1 jE ⟨h3, t25, h2, t24, -⟩ - K hK
      have h3 : ∃ gq, (F 3) = .slice (some ⟨gq, 0, none⟩) 1 1 := h3
      have h2 : (F 2) = .bool true := h2
      rw [h2] at t24
      clear h2
      refine stepY ((wanted_of 2 true 24 _ rfl rfl t24).trans rfl) ?_
      obtain ⟨gq, hv⟩ := h3
      rw [hv] at t25
      refine wp_buildTo 28 _ rfl (stk 3 ⟨0, 0⟩ (some ⟨gq, 0, none⟩) 1 1).cells (by simp only [List.map_toArray, List.map_cons, List.map_nil]; rw [eval_tmp t25]; kernel_rfl) ?_
      exact hK _ _ jE ⟨gq, rfl⟩ (fun _ _ _ h => h)
    · refine stepL_of ?_
      rintro F a w1 jE ⟨h4, t26, h2, t24, -⟩ - K hK
      have h4 : ∃ gq, (F 4) = .agg (stk 3 ⟨0, 0⟩ (some ⟨gq, 0, none⟩) 1 1).cells := h4
      have h2 : (F 2) = .bool true := h2
      rw [h2] at t24
      clear h2
      refine stepY ((wanted_of 2 true 24 _ rfl rfl t24).trans rfl) ?_
      obtain ⟨gq, hv⟩ := h4
      rw [hv] at t26
      go_simp
      with_reducible refine (wk_r3 (some ⟨gq, 0, none⟩) 1 1 (by omega) _).mono ?_
      rintro e w2 ⟨rfl, hx⟩
      exact hK _ _ (jE.trans hx) (rfl) (by intro jq hj uq h; have hj : jq ∈ [2] := hj; simp only [List.mem_singleton] at hj; subst hj; exact h)
    · refine stepL_plain rfl ?_
      rintro F a w1 jE ⟨h2, t24, h5, t27, -⟩ - K hK
      have h2 : (F 2) = .bool true := h2
      rw [h2] at t24
      clear h2
      have h5 : (F 5) = .bool true := h5
      rw [h5] at t27
      clear h5
      go_simp
      exact hK _ _ jE rfl (fun _ _ _ h => h)
    · refine stepL_plain rfl ?_
      rintro F a w1 jE ⟨h6, t28, -⟩ - K hK
      have h6 : (F 6) = .bool true := h6
      rw [h6] at t28
      clear h6
      go_simp
      exact hK _ _ jE rfl (fun _ _ _ h => h)
  · rintro F w6 jE ⟨h7, -⟩
    have h7 : (F 7) = .bool true := h7
    have hx := jE.ext (Ext.refl _) (by simp)
    replace E1 := E1.trans hx
    clear jE hx
    simp only [putL, Act.put, Nat.reduceAdd, Nat.zero_add, List.setIfInBounds_toArray, List.set_cons_succ, List.set_cons_zero]
    rw [h7]
    clear h7
    go_upto_region 4 with fail
    refine wp_region_lin0 (fun w' => (ExtX w6 w' [])) (fun ii vv ww => match ii with | 0 => vv = .bool true | 1 => vv = .bool true | 2 => vv = (.agg (stk 4 ⟨0, 0⟩ none 0 0).cells) | 3 => vv = .bool false | 4 => vv = .bool true | 5 => vv = .bool true | 6 => vv = .bool true | 7 => vv = (.agg #[.int .u8 1, .int .i64 (-1)]) | 8 => vv = (.agg (stk 1 ⟨1, -1⟩ none 0 0).cells) | 9 => vv = .bool false | 10 => vv = .bool true | 11 => vv = .bool true | 12 => vv = .bool true | 13 => vv = .int .i64 3 | 14 => vv = .bool true | 15 => vv = .bool true | 16 => vv = .bool true | 17 => vv = .bool false | 18 => vv = .bool true | 19 => vv = .bool true | 20 => vv = .bool true | 21 => vv = .bool false | 22 => vv = .bool true | 23 => vv = .bool true | 24 => vv = .bool true | 25 => vv = .int .i64 8 | 26 => vv = .bool true | 27 => vv = .bool true | 28 => vv = .bool true | 29 => vv = .bool false | 30 => vv = .bool true | 31 => vv = .bool true | 32 => vv = .bool true | _ => True) (fun ii => match ii with | 1 => [(0, 29)] | 2 => [(1, 30)] | 3 => [(2, 31), (1, 30)] | 4 => [(3, 32), (1, 30)] | 5 => [(1, 30), (4, 33)] | 6 => [(5, 34)] | 7 => [(6, 35)] | 8 => [(7, 36), (6, 35)] | 9 => [(8, 37), (6, 35)] | 10 => [(9, 38), (6, 35)] | 11 => [(6, 35), (10, 39)] | 12 => [(11, 40)] | 13 => [(12, 41)] | 14 => [(13, 42), (12, 41)] | 15 => [(12, 41), (14, 43)] | 16 => [(15, 44)] | 17 => [(16, 45)] | 18 => [(17, 46), (16, 45)] | 19 => [(16, 45), (18, 47)] | 20 => [(19, 48)] | 21 => [(20, 49)] | 22 => [(21, 50), (20, 49)] | 23 => [(20, 49), (22, 51)] | 24 => [(23, 52)] | 25 => [(24, 53)] | 26 => [(25, 54), (24, 53)] | 27 => [(24, 53), (26, 55)] | 28 => [(27, 56)] | 29 => [(28, 57)] | 30 => [(29, 58), (28, 57)] | 31 => [(28, 57), (30, 59)] | 32 => [(31, 60)] | _ => []) (fun ii => match ii with | 0 => [7] | 13 => [1] | 17 => [2] | 21 => [3] | 25 => [4] | 29 => [5] | _ => []) (fun ii => match ii with | 2 => [1] | 3 => [1] | 4 => [1] | 7 => [6] | 8 => [6] | 9 => [6] | 10 => [6] | 13 => [12] | 14 => [12] | 17 => [16] | 18 => [16] | 21 => [20] | 22 => [20] | 25 => [24] | 26 => [24] | 29 => [28] | 30 => [28] | _ => []) [32] [0, 1, 3, 7, 15, 31, 63, 127, 255, 511, 1023, 2047, 4095, 8191, 16383, 32767, 65535, 131071, 262143, 524287, 1048575, 2097151, 4194303, 8388607, 16777215, 33554431, 67108863, 134217727, 268435455, 536870911, 1073741823, 2147483647, 4294967295] 61 rfl (by kernel_rfl) (ExtX.refl _ _) ?_ ?_
    · rename_i hcont; clear hcont
      refine ⟨?_, ?_, ?_, ?_, ?_, ?_, ?_, ?_, ?_, ?_, ?_, ?_, ?_, ?_, ?_, ?_, ?_, ?_, ?_, ?_, ?_, ?_, ?_, ?_, ?_, ?_, ?_, ?_, ?_, ?_, ?_, ?_, ?_, trivial⟩
      · refine stepL_plain rfl ?_
        rintro F a w1 jE - ⟨t7, -⟩ K hK
        have t7 : a.tmps[7]? = some (.bool true) := t7
        go_simp
        exact hK _ _ jE rfl (fun _ _ _ h => h)
      · refine stepL_plain rfl ?_
        rintro F a w1 jE ⟨h0, t29, -⟩ - K hK
        have h0 : (F 0) = .bool true := h0
        rw [h0] at t29
        clear h0
        go_simp
        exact hK _ _ jE rfl (fun _ _ _ h => h)
      · refine stepL_of ?_
        rintro F a w1 jE ⟨h1, t30, -⟩ - K hK
        have h1 : (F 1) = .bool true := h1
        rw [h1] at t30
        clear h1
        refine stepY ((wanted_of 1 true 30 _ rfl rfl t30).trans rfl) ?_
        refine wp_buildTo 28 _ rfl (stk 4 ⟨0, 0⟩ none 0 0).cells (by simp only [List.map_toArray, List.map_cons, List.map_nil]; kernel_rfl) ?_
        exact hK _ _ jE rfl (fun _ _ _ h => h)
      · refine stepL_of ?_
        rintro F a w1 jE ⟨h2, t31, h1, t30, -⟩ - K hK
        have h2 : (F 2) = (.agg (stk 4 ⟨0, 0⟩ none 0 0).cells) := h2
        rw [h2] at t31
        clear h2
        have h1 : (F 1) = .bool true := h1
        rw [h1] at t30
        clear h1
        refine stepY ((wanted_of 1 true 30 _ rfl rfl t30).trans rfl) ?_
        go_simp
        with_reducible refine (wk_r4 _).mono ?_
        rintro e w2 ⟨rfl, hx⟩
        exact hK _ _ (jE.trans hx) (rfl) (by intro jq hj uq h; have hj : jq ∈ [1] := hj; simp only [List.mem_singleton] at hj; subst hj; exact h)
      · refine stepL_of ?_
        rintro F a w1 jE ⟨h3, t32, h1, t30, -⟩ - K hK
        have h3 : (F 3) = .bool false := h3
        rw [h3] at t32
        clear h3
        have h1 : (F 1) = .bool true := h1
        rw [h1] at t30
        clear h1
        refine stepY ((wanted_of 1 true 30 _ rfl rfl t30).trans rfl) ?_
        go_simp
        exact hK _ _ jE rfl (fun _ _ _ h => h)
      · refine stepL_plain rfl ?_
        rintro F a w1 jE ⟨h1, t30, h4, t33, -⟩ - K hK
        have h1 : (F 1) = .bool true := h1
        rw [h1] at t30
        clear h1
        have h4 : (F 4) = .bool true := h4
        rw [h4] at t33
        clear h4
        go_simp
        exact hK _ _ jE rfl (fun _ _ _ h => h)
      · refine stepL_plain rfl ?_
        rintro F a w1 jE ⟨h5, t34, -⟩ - K hK
        have h5 : (F 5) = .bool true := h5
        rw [h5] at t34
        clear h5
        go_simp
        exact hK _ _ jE rfl (fun _ _ _ h => h)
      · refine stepL_of ?_
        rintro F a w1 jE ⟨h6, t35, -⟩ - K hK
        have h6 : (F 6) = .bool true := h6
        rw [h6] at t35
        clear h6
        refine stepY ((wanted_of 6 true 35 _ rfl rfl t35).trans rfl) ?_
        go_simp
        with_reducible refine (px4_any (-1) _).mono ?_
        rintro e w2 ⟨rfl, hx⟩
        exact hK _ _ (jE.trans hx) (rfl) (by intro jq hj uq h; have hj : jq ∈ [6] := hj; simp only [List.mem_singleton] at hj; subst hj; exact h)
      · refine stepL_of ?_
        rintro F a w1 jE ⟨h7, t36, h6, t35, -⟩ - K hK
        have h7 : (F 7) = (.agg #[.int .u8 1, .int .i64 (-1)]) := h7
        rw [h7] at t36
        clear h7
        have h6 : (F 6) = .bool true := h6
        rw [h6] at t35
        clear h6
        refine stepY ((wanted_of 6 true 35 _ rfl rfl t35).trans rfl) ?_
        refine wp_buildTo 28 _ rfl (stk 1 ⟨1, -1⟩ none 0 0).cells (by simp only [List.map_toArray, List.map_cons, List.map_nil]; rw [eval_tmp t36]; kernel_rfl) ?_
        exact hK _ _ jE rfl (fun _ _ _ h => h)
      · refine stepL_of ?_
        rintro F a w1 jE ⟨h8, t37, h6, t35, -⟩ - K hK
        have h8 : (F 8) = (.agg (stk 1 ⟨1, -1⟩ none 0 0).cells) := h8
        rw [h8] at t37
        clear h8
        have h6 : (F 6) = .bool true := h6
        rw [h6] at t35
        clear h6
        refine stepY ((wanted_of 6 true 35 _ rfl rfl t35).trans rfl) ?_
        go_simp
        with_reducible refine (wk_rp _).mono ?_
        rintro e w2 ⟨rfl, hx⟩
        exact hK _ _ (jE.trans hx) (rfl) (by intro jq hj uq h; have hj : jq ∈ [6] := hj; simp only [List.mem_singleton] at hj; subst hj; exact h)
      · refine stepL_of ?_
        rintro F a w1 jE ⟨h9, t38, h6, t35, -⟩ - K hK
        have h9 : (F 9) = .bool false := h9
        rw [h9] at t38
        clear h9
        have h6 : (F 6) = .bool true := h6
        rw [h6] at t35
        clear h6
        refine stepY ((wanted_of 6 true 35 _ rfl rfl t35).trans rfl) ?_
        go_simp
        exact hK _ _ jE rfl (fun _ _ _ h => h)
      · refine stepL_plain rfl ?_
        rintro F a w1 jE ⟨h6, t35, h10, t39, -⟩ - K hK
        have h6 : (F 6) = .bool true := h6
        rw [h6] at t35
        clear h6
        have h10 : (F 10) = .bool true := h10
        rw [h10] at t39
        clear h10
        go_simp
        exact hK _ _ jE rfl (fun _ _ _ h => h)
      · refine stepL_plain rfl ?_
        rintro F a w1 jE ⟨h11, t40, -⟩ - K hK
        have h11 : (F 11) = .bool true := h11
        rw [h11] at t40
        clear h11
        go_simp
        exact hK _ _ jE rfl (fun _ _ _ h => h)
      · refine stepL_of ?_
        rintro F a w1 jE ⟨h12, t41, -⟩ ⟨t1, -⟩ K hK
        have h12 : (F 12) = .bool true := h12
        rw [h12] at t41
        clear h12
        have t1 : a.tmps[1]? = some (.int .i64 3) := t1
        refine stepY ((wanted_of 12 true 41 _ rfl rfl t41).trans rfl) ?_
        go_simp
        exact hK _ _ jE rfl (fun _ _ _ h => h)
      · refine stepL_of ?_
        rintro F a w1 jE ⟨h13, t42, h12, t41, -⟩ - K hK
        have h13 : (F 13) = .int .i64 3 := h13
        rw [h13] at t42
        clear h13
        have h12 : (F 12) = .bool true := h12
        rw [h12] at t41
        clear h12
        refine stepY ((wanted_of 12 true 41 _ rfl rfl t41).trans rfl) ?_
        go_simp
        exact hK _ _ jE rfl (fun _ _ _ h => h)
      · refine stepL_plain rfl ?_
        rintro F a w1 jE ⟨h12, t41, h14, t43, -⟩ - K hK
        have h12 : (F 12) = .bool true := h12
        rw [h12] at t41
        clear h12
        have h14 : (F 14) = .bool true := h14
        rw [h14] at t43
        clear h14
        go_simp
        exact hK _ _ jE rfl (fun _ _ _ h => h)
      · refine stepL_plain rfl ?_
        rintro F a w1 jE ⟨h15, t44, -⟩ - K hK
        have h15 : (F 15) = .bool true := h15
        rw [h15] at t44
        clear h15
        go_simp
        exact hK _ _ jE rfl (fun _ _ _ h => h)
      · refine stepL_of ?_
        rintro F a w1 jE ⟨h16, t45, -⟩ ⟨t2, -⟩ K hK
        have h16 : (F 16) = .bool true := h16
        rw [h16] at t45
        clear h16
        have t2 : a.tmps[2]? = some (.bool false) := t2
        refine stepY ((wanted_of 16 true 45 _ rfl rfl t45).trans rfl) ?_
        go_simp
        exact hK _ _ jE rfl (fun _ _ _ h => h)
      · refine stepL_of ?_
        rintro F a w1 jE ⟨h17, t46, h16, t45, -⟩ - K hK
        have h17 : (F 17) = .bool false := h17
        rw [h17] at t46
        clear h17
        have h16 : (F 16) = .bool true := h16
        rw [h16] at t45
        clear h16
        refine stepY ((wanted_of 16 true 45 _ rfl rfl t45).trans rfl) ?_
        go_simp
        exact hK _ _ jE rfl (fun _ _ _ h => h)
      · refine stepL_plain rfl ?_
        rintro F a w1 jE ⟨h16, t45, h18, t47, -⟩ - K hK
        have h16 : (F 16) = .bool true := h16
        rw [h16] at t45
        clear h16
        have h18 : (F 18) = .bool true := h18
        rw [h18] at t47
        clear h18
        go_simp
        exact hK _ _ jE rfl (fun _ _ _ h => h)
      · refine stepL_plain rfl ?_
        rintro F a w1 jE ⟨h19, t48, -⟩ - K hK
        have h19 : (F 19) = .bool true := h19
        rw [h19] at t48
        clear h19
        go_simp
        exact hK _ _ jE rfl (fun _ _ _ h => h)
      · refine stepL_of ?_
        rintro F a w1 jE ⟨h20, t49, -⟩ ⟨t3, -⟩ K hK
        have h20 : (F 20) = .bool true := h20
        rw [h20] at t49
        clear h20
        have t3 : a.tmps[3]? = some (.bool false) := t3
        refine stepY ((wanted_of 20 true 49 _ rfl rfl t49).trans rfl) ?_
        go_simp
        exact hK _ _ jE rfl (fun _ _ _ h => h)
      · refine stepL_of ?_
        rintro F a w1 jE ⟨h21, t50, h20, t49, -⟩ - K hK
        have h21 : (F 21) = .bool false := h21
        rw [h21] at t50
        clear h21
        have h20 : (F 20) = .bool true := h20
        rw [h20] at t49
        clear h20
        refine stepY ((wanted_of 20 true 49 _ rfl rfl t49).trans rfl) ?_
        go_simp
        exact hK _ _ jE rfl (fun _ _ _ h => h)
      · refine stepL_plain rfl ?_
        rintro F a w1 jE ⟨h20, t49, h22, t51, -⟩ - K hK
        have h20 : (F 20) = .bool true := h20
        rw [h20] at t49
        clear h20
        have h22 : (F 22) = .bool true := h22
        rw [h22] at t51
        clear h22
        go_simp
        exact hK _ _ jE rfl (fun _ _ _ h => h)
      · refine stepL_plain rfl ?_
        rintro F a w1 jE ⟨h23, t52, -⟩ - K hK
        have h23 : (F 23) = .bool true := h23
        rw [h23] at t52
        clear h23
        go_simp
        exact hK _ _ jE rfl (fun _ _ _ h => h)
      · refine stepL_of ?_
        rintro F a w1 jE ⟨h24, t53, -⟩ ⟨t4, -⟩ K hK
        have h24 : (F 24) = .bool true := h24
        rw [h24] at t53
        clear h24
        have t4 : a.tmps[4]? = some (.int .i64 8) := t4
        refine stepY ((wanted_of 24 true 53 _ rfl rfl t53).trans rfl) ?_
        go_simp
        exact hK _ _ jE rfl (fun _ _ _ h => h)
      · refine stepL_of ?_
        rintro F a w1 jE ⟨h25, t54, h24, t53, -⟩ - K hK
        have h25 : (F 25) = .int .i64 8 := h25
        rw [h25] at t54
        clear h25
        have h24 : (F 24) = .bool true := h24
        rw [h24] at t53
        clear h24
        refine stepY ((wanted_of 24 true 53 _ rfl rfl t53).trans rfl) ?_
        go_simp
        exact hK _ _ jE rfl (fun _ _ _ h => h)
      · refine stepL_plain rfl ?_
        rintro F a w1 jE ⟨h24, t53, h26, t55, -⟩ - K hK
        have h24 : (F 24) = .bool true := h24
        rw [h24] at t53
        clear h24
        have h26 : (F 26) = .bool true := h26
        rw [h26] at t55
        clear h26
        go_simp
        exact hK _ _ jE rfl (fun _ _ _ h => h)
      · refine stepL_plain rfl ?_
        rintro F a w1 jE ⟨h27, t56, -⟩ - K hK
        have h27 : (F 27) = .bool true := h27
        rw [h27] at t56
        clear h27
        go_simp
        exact hK _ _ jE rfl (fun _ _ _ h => h)
      · refine stepL_of ?_
        rintro F a w1 jE ⟨h28, t57, -⟩ ⟨t5, -⟩ K hK
        have h28 : (F 28) = .bool true := h28
        rw [h28] at t57
        clear h28
        have t5 : a.tmps[5]? = some (.bool false) := t5
        refine stepY ((wanted_of 28 true 57 _ rfl rfl t57).trans rfl) ?_
        go_simp
        exact hK _ _ jE rfl (fun _ _ _ h => h)
      · refine stepL_of ?_
        rintro F a w1 jE ⟨h29, t58, h28, t57, -⟩ - K hK
        have h29 : (F 29) = .bool false := h29
        rw [h29] at t58
        clear h29
        have h28 : (F 28) = .bool true := h28
        rw [h28] at t57
        clear h28
        refine stepY ((wanted_of 28 true 57 _ rfl rfl t57).trans rfl) ?_
        go_simp
        exact hK _ _ jE rfl (fun _ _ _ h => h)
      · refine stepL_plain rfl ?_
        rintro F a w1 jE ⟨h28, t57, h30, t59, -⟩ - K hK
        have h28 : (F 28) = .bool true := h28
        rw [h28] at t57
        clear h28
        have h30 : (F 30) = .bool true := h30
        rw [h30] at t59
        clear h30
        go_simp
        exact hK _ _ jE rfl (fun _ _ _ h => h)
      · refine stepL_plain rfl ?_
        rintro F a w1 jE ⟨h31, t60, -⟩ - K hK
        have h31 : (F 31) = .bool true := h31
        rw [h31] at t60
        clear h31
        go_simp
        exact hK _ _ jE rfl (fun _ _ _ h => h)
    · rintro F w7 jE ⟨h32, -⟩
      have h32 : (F 32) = .bool true := h32
      have hx := jE.ext (Ext.refl _) (by simp)
      replace E1 := E1.trans hx
      clear jE hx
      simp only [putL, Act.put, Nat.reduceAdd, Nat.zero_add, List.setIfInBounds_toArray, List.set_cons_succ, List.set_cons_zero]
      rw [h32]
      clear h32
      go_wp2_with fail
      go_ret
      exact ⟨rfl, E1⟩
end Go.Proofs.Ytahneblnbafpoaa
