/- Styles, the program's: the rules of a box (walks). -/
import Derived.Test.YtnolbmfjgfojhaaSp1
namespace Go.Proofs.Ytnolbmfjgfojhaa
open Go.RowKit

def thickP (x : Int) : Bool := decide (0 ≤ x ∧ x ≤ 1099511627776)
theorem pthickP (x : Int) (w : World) : Calls Try.prog 87 #[.int .i64 x] w fun e w' => e = .returned (.bool (thickP x)) ∧ w = w' := pthick_any x w
def ruleV (s : Sty) : Nat → Bool
  | 0 => decide (s.float ≤ 2)
  | 1 => decide (s.clear ≤ 3)
  | 2 => allL (fun l => mayV l false) [s.w, s.minw, s.maxw, s.basis] 0
  | 3 => allL tallV [s.h, s.minh, s.maxh] 0
  | 4 => allL (fun l => mayV l true) [s.m0, s.m1, s.m2, s.m3] 0
  | 5 => allI thickP [s.b0, s.b1, s.b2, s.b3] 0
  | 6 => allI thickP [s.p0, s.p1, s.p2, s.p3] 0
  | 7 => decide (s.align ≤ 2)
  | 8 => decide (s.justify ≤ 3)
  | 9 => decide (s.items ≤ 3)
  | 10 => decide (0 ≤ s.line ∧ s.line ≤ 1099511627776)
  | 11 => decide (-1048576 ≤ s.order ∧ s.order ≤ 1048576)
  | 12 => decide (0 ≤ s.grow ∧ s.grow ≤ 60)
  | 13 => decide (0 ≤ s.shrink ∧ s.shrink ≤ 60)
  | _ => decide (s.ul = 0)
theorem Blk.mid {w : World} {g : Nat} {t : TypeId} {cs : Array Value} (h : Blk w g t cs) (o k n : Nat) (xs : List Value) (hx : (cs.toList.drop o).take (n * k) = xs) (hl : xs.length = n * k) : Rd w k (some ⟨g, o, none⟩) n xs :=
  ⟨hl, fun _ => ⟨g, o, rfl, h.lt, fun j u hu => by
    rw [h.cell]
    rw [← hx, List.getElem?_take] at hu
    split at hu
    · rw [List.getElem?_drop] at hu; simpa using hu
    · cases hu⟩⟩
set_option maxRecDepth 100000 in
set_option maxHeartbeats 1000000 in
theorem rule_0 (s : Sty) (g : Nat) (w : World) (B : Blk w g 45 s.cells) : Calls Try.prog 76 #[.pointer (some ⟨g, 0, none⟩)] w fun e w' => e = .returned (.bool (ruleV s 0)) ∧ Ext w w' := by
  have c0 := B.cell
  have l0 := B.lt
  go_enter Try.func76, Try.ntmps76
  go_wp2
  all_goals go_ret
  all_goals exact ⟨ret1b (rfl), Ext.refl _⟩
set_option maxRecDepth 100000 in
set_option maxHeartbeats 1000000 in
theorem rule_1 (s : Sty) (g : Nat) (w : World) (B : Blk w g 45 s.cells) : Calls Try.prog 77 #[.pointer (some ⟨g, 0, none⟩)] w fun e w' => e = .returned (.bool (ruleV s 1)) ∧ Ext w w' := by
  have c0 := B.cell
  have l0 := B.lt
  go_enter Try.func77, Try.ntmps77
  go_wp2
  all_goals go_ret
  all_goals exact ⟨ret1b (rfl), Ext.refl _⟩
set_option maxRecDepth 100000 in
set_option maxHeartbeats 1000000 in
theorem rule_7 (s : Sty) (g : Nat) (w : World) (B : Blk w g 45 s.cells) : Calls Try.prog 89 #[.pointer (some ⟨g, 0, none⟩)] w fun e w' => e = .returned (.bool (ruleV s 7)) ∧ Ext w w' := by
  have c0 := B.cell
  have l0 := B.lt
  go_enter Try.func89, Try.ntmps89
  go_wp2
  all_goals go_ret
  all_goals exact ⟨ret1b (rfl), Ext.refl _⟩
set_option maxRecDepth 100000 in
set_option maxHeartbeats 1000000 in
theorem rule_8 (s : Sty) (g : Nat) (w : World) (B : Blk w g 45 s.cells) : Calls Try.prog 90 #[.pointer (some ⟨g, 0, none⟩)] w fun e w' => e = .returned (.bool (ruleV s 8)) ∧ Ext w w' := by
  have c0 := B.cell
  have l0 := B.lt
  go_enter Try.func90, Try.ntmps90
  go_wp2
  all_goals go_ret
  all_goals exact ⟨ret1b (rfl), Ext.refl _⟩
set_option maxRecDepth 100000 in
set_option maxHeartbeats 1000000 in
theorem rule_9 (s : Sty) (g : Nat) (w : World) (B : Blk w g 45 s.cells) : Calls Try.prog 91 #[.pointer (some ⟨g, 0, none⟩)] w fun e w' => e = .returned (.bool (ruleV s 9)) ∧ Ext w w' := by
  have c0 := B.cell
  have l0 := B.lt
  go_enter Try.func91, Try.ntmps91
  go_wp2
  all_goals go_ret
  all_goals exact ⟨ret1b (rfl), Ext.refl _⟩
set_option maxRecDepth 100000 in
set_option maxHeartbeats 1000000 in
theorem rule_11 (s : Sty) (g : Nat) (w : World) (B : Blk w g 45 s.cells) : Calls Try.prog 93 #[.pointer (some ⟨g, 0, none⟩)] w fun e w' => e = .returned (.bool (ruleV s 11)) ∧ Ext w w' := by
  have c0 := B.cell
  have l0 := B.lt
  go_enter Try.func93, Try.ntmps93
  go_wp2
  all_goals go_ret
  all_goals exact ⟨ret1b (by rw [Bool.eq_iff_iff]; simp [ruleV]; omega), Ext.refl _⟩
set_option maxRecDepth 100000 in
set_option maxHeartbeats 1000000 in
theorem rule_14 (s : Sty) (g : Nat) (w : World) (B : Blk w g 45 s.cells) : Calls Try.prog 97 #[.pointer (some ⟨g, 0, none⟩)] w fun e w' => e = .returned (.bool (ruleV s 14)) ∧ Ext w w' := by
  have c0 := B.cell
  have l0 := B.lt
  go_enter Try.func97, Try.ntmps97
  go_wp2
  all_goals go_ret
  all_goals exact ⟨ret1b (by rw [Bool.eq_iff_iff]; simp [ruleV]), Ext.refl _⟩
set_option maxRecDepth 100000 in
set_option maxHeartbeats 1000000 in
theorem rule_10 (s : Sty) (g : Nat) (w : World) (B : Blk w g 45 s.cells) : Calls Try.prog 92 #[.pointer (some ⟨g, 0, none⟩)] w fun e w' => e = .returned (.bool (ruleV s 10)) ∧ Ext w w' := by
  have c := fun w => hide (pthick_any s.line w)
  have c0 := B.cell
  have l0 := B.lt
  go_enter Try.func92, Try.ntmps92
  go_wp2_with fail
  refine (unhide (c _)).mono ?_
  rintro e w' ⟨rfl, rfl⟩
  go_wp2_with fail
  go_ret
  exact ⟨ret1b (by simp [ruleV]), Ext.refl _⟩
set_option maxRecDepth 100000 in
set_option maxHeartbeats 1000000 in
theorem rule_12 (s : Sty) (g : Nat) (w : World) (B : Blk w g 45 s.cells) : Calls Try.prog 94 #[.pointer (some ⟨g, 0, none⟩)] w fun e w' => e = .returned (.bool (ruleV s 12)) ∧ Ext w w' := by
  have c := fun w => hide (pwithin_any s.grow 0 60 w)
  have c0 := B.cell
  have l0 := B.lt
  go_enter Try.func94, Try.ntmps94
  go_wp2_with fail
  refine (unhide (c _)).mono ?_
  rintro e w' ⟨rfl, rfl⟩
  go_wp2_with fail
  go_ret
  exact ⟨ret1b (by simp [ruleV]), Ext.refl _⟩
set_option maxRecDepth 100000 in
set_option maxHeartbeats 1000000 in
theorem rule_13 (s : Sty) (g : Nat) (w : World) (B : Blk w g 45 s.cells) : Calls Try.prog 96 #[.pointer (some ⟨g, 0, none⟩)] w fun e w' => e = .returned (.bool (ruleV s 13)) ∧ Ext w w' := by
  have c := fun w => hide (pwithin_any s.shrink 0 60 w)
  have c0 := B.cell
  have l0 := B.lt
  go_enter Try.func96, Try.ntmps96
  go_wp2_with fail
  refine (unhide (c _)).mono ?_
  rintro e w' ⟨rfl, rfl⟩
  go_wp2_with fail
  go_ret
  exact ⟨ret1b (by simp [ruleV]), Ext.refl _⟩
set_option maxRecDepth 100000 in
set_option maxHeartbeats 1000000 in
theorem rule_4 (s : Sty) (g : Nat) (w : World) (B : Blk w g 45 s.cells) : Calls Try.prog 83 #[.pointer (some ⟨g, 0, none⟩)] w fun e w' => e = .returned (.bool (ruleV s 4)) ∧ Ext w w' := by
  have c := fun w h => hide (eachL_any 84 (fun l => mayV l true) (call_enter Try.func84 (by kernel_rfl) (by kernel_rfl)) pmargin_any (some ⟨g, 16, none⟩) 4 4 [s.m0, s.m1, s.m2, s.m3] w h (by omega))
  have c0 := B.cell
  have l0 := B.lt
  go_enter Try.func83, Try.ntmps83
  go_wp2_with fail
  refine (unhide (c _ (B.mid 16 2 4 _ rfl rfl))).mono ?_
  rintro e w' ⟨rfl, hx⟩
  go_wp2_with fail
  go_ret
  exact ⟨rfl, hx⟩
set_option maxRecDepth 100000 in
set_option maxHeartbeats 1000000 in
theorem rule_5 (s : Sty) (g : Nat) (w : World) (B : Blk w g 45 s.cells) : Calls Try.prog 85 #[.pointer (some ⟨g, 0, none⟩)] w fun e w' => e = .returned (.bool (ruleV s 5)) ∧ Ext w w' := by
  have c := fun w h => hide (eachI_any 87 thickP (call_enter Try.func87 (by kernel_rfl) (by kernel_rfl)) pthickP (some ⟨g, 24, none⟩) 4 4 [s.b0, s.b1, s.b2, s.b3] w h (by omega))
  have c0 := B.cell
  have l0 := B.lt
  go_enter Try.func85, Try.ntmps85
  go_wp2_with fail
  refine (unhide (c _ (B.mid 24 1 4 _ rfl rfl))).mono ?_
  rintro e w' ⟨rfl, hx⟩
  go_wp2_with fail
  go_ret
  exact ⟨rfl, hx⟩
set_option maxRecDepth 100000 in
set_option maxHeartbeats 1000000 in
theorem rule_6 (s : Sty) (g : Nat) (w : World) (B : Blk w g 45 s.cells) : Calls Try.prog 88 #[.pointer (some ⟨g, 0, none⟩)] w fun e w' => e = .returned (.bool (ruleV s 6)) ∧ Ext w w' := by
  have c := fun w h => hide (eachI_any 87 thickP (call_enter Try.func87 (by kernel_rfl) (by kernel_rfl)) pthickP (some ⟨g, 28, none⟩) 4 4 [s.p0, s.p1, s.p2, s.p3] w h (by omega))
  have c0 := B.cell
  have l0 := B.lt
  go_enter Try.func88, Try.ntmps88
  go_wp2_with fail
  refine (unhide (c _ (B.mid 28 1 4 _ rfl rfl))).mono ?_
  rintro e w' ⟨rfl, hx⟩
  go_wp2_with fail
  go_ret
  exact ⟨rfl, hx⟩
theorem Blk.rdL {w : World} {g n : Nat} {cs : Array Value} {ls : List Ln} (h : Blk w g 40 cs) (hx : cs.toList = lnsC ls) (hn : ls.length = n) : Rd w 2 (some ⟨g, 0, none⟩) n (lnsC ls) :=
  ⟨by rw [lnsC_len, hn], fun _ => ⟨g, 0, rfl, h.lt, fun j u hu => by rw [h.cell]; rw [← hx] at hu; simpa using hu⟩⟩
set_option maxRecDepth 100000 in
set_option maxHeartbeats 1000000 in
theorem rule_2 (s : Sty) (g : Nat) (w : World) (B : Blk w g 45 s.cells) : Calls Try.prog 78 #[.pointer (some ⟨g, 0, none⟩)] w fun e w' => e = .returned (.bool (ruleV s 2)) ∧ Ext w w' := by
  have c := fun gq w h => hide (eachL_any 80 (fun l => mayV l false) (call_enter Try.func80 (by kernel_rfl) (by kernel_rfl)) pmay_any (some ⟨gq, 0, none⟩) 4 4 [s.w, s.minw, s.maxw, s.basis] w h (by omega))
  go_enter Try.func78, Try.ntmps78
  go_upto_region 1 with fail
  refine wp_region_lin (by kernel_rfl) (fun w' => (ExtX w w' [])) (fun ii vv ww => match ii with | 0 => vv = .pointer (some ⟨g, 0, none⟩) | 1 => vv = .pointer (some ⟨g, 0, none⟩) | 2 => vv = .pointer (some ⟨g, 4, none⟩) | 3 => vv = (.agg #[.int .u8 s.w.k, .int .i64 s.w.n]) | 4 => vv = .pointer (some ⟨g, 0, none⟩) | 5 => vv = .pointer (some ⟨g, 0, none⟩) | 6 => vv = .pointer (some ⟨g, 8, none⟩) | 7 => vv = (.agg #[.int .u8 s.minw.k, .int .i64 s.minw.n]) | 8 => vv = .pointer (some ⟨g, 0, none⟩) | 9 => vv = .pointer (some ⟨g, 0, none⟩) | 10 => vv = .pointer (some ⟨g, 10, none⟩) | 11 => vv = (.agg #[.int .u8 s.maxw.k, .int .i64 s.maxw.n]) | 12 => vv = .pointer (some ⟨g, 0, none⟩) | 13 => vv = .pointer (some ⟨g, 0, none⟩) | 14 => vv = .pointer (some ⟨g, 40, none⟩) | 15 => vv = (.agg #[.int .u8 s.basis.k, .int .i64 s.basis.n]) | 16 => ∃ gq, vv = .slice (some ⟨gq, 0, none⟩) 4 4 ∧ Blk ww gq 40 (wdC s) | 17 => vv = .bool (ruleV s 2) | 18 => vv = .bool (ruleV s 2) | _ => True) (fun ii => match ii with | 1 => [(0, 3)] | 2 => [(1, 4)] | 3 => [(2, 5)] | 5 => [(4, 7)] | 6 => [(5, 8)] | 7 => [(6, 9)] | 9 => [(8, 11)] | 10 => [(9, 12)] | 11 => [(10, 13)] | 13 => [(12, 15)] | 14 => [(13, 16)] | 15 => [(14, 17)] | 16 => [(3, 6), (7, 10), (11, 14), (15, 18)] | 17 => [(16, 19)] | 18 => [(17, 20)] | _ => []) (fun ii => match ii with | 0 => [0] | 4 => [0] | 8 => [0] | 12 => [0] | _ => []) (fun ii => match ii with | 0 => [4, 5, 6, 8, 9, 10, 12, 13, 14, 7, 11, 15] | 1 => [4, 5, 6, 8, 9, 10, 12, 13, 14, 7, 11, 15] | 2 => [4, 5, 6, 8, 9, 10, 12, 13, 14, 7, 11, 15] | 3 => [4, 5, 6, 8, 9, 10, 12, 13, 14, 7, 11, 15] | 4 => [0, 1, 2, 8, 9, 10, 12, 13, 14, 3, 11, 15] | 5 => [0, 1, 2, 8, 9, 10, 12, 13, 14, 3, 11, 15] | 6 => [0, 1, 2, 8, 9, 10, 12, 13, 14, 3, 11, 15] | 7 => [0, 1, 2, 8, 9, 10, 12, 13, 14, 3, 11, 15] | 8 => [0, 1, 2, 4, 5, 6, 12, 13, 14, 3, 7, 15] | 9 => [0, 1, 2, 4, 5, 6, 12, 13, 14, 3, 7, 15] | 10 => [0, 1, 2, 4, 5, 6, 12, 13, 14, 3, 7, 15] | 11 => [0, 1, 2, 4, 5, 6, 12, 13, 14, 3, 7, 15] | 12 => [0, 1, 2, 4, 5, 6, 8, 9, 10, 3, 7, 11] | 13 => [0, 1, 2, 4, 5, 6, 8, 9, 10, 3, 7, 11] | 14 => [0, 1, 2, 4, 5, 6, 8, 9, 10, 3, 7, 11] | 15 => [0, 1, 2, 4, 5, 6, 8, 9, 10, 3, 7, 11] | _ => []) [18] [0, 1, 3, 7, 0, 16, 48, 112, 0, 256, 768, 1792, 0, 4096, 12288, 28672, 65535, 131071, 262143] 21 rfl (by kernel_rfl) (ExtX.start _ _) ?_ ?_
  · rename_i hcont; clear hcont
    refine ⟨?_, ?_, ?_, ?_, ?_, ?_, ?_, ?_, ?_, ?_, ?_, ?_, ?_, ?_, ?_, ?_, ?_, ?_, ?_, trivial⟩
    · refine stepL_plain rfl ?_
      rintro F a w1 jE - ⟨t0, -⟩ K hK
      have t0 : a.tmps[0]? = some (.pointer (some ⟨g, 0, none⟩)) := t0
      go_simp
      exact hK _ _ jE rfl (fun _ _ _ h => h)
    · refine stepL_plain rfl ?_
      rintro F a w1 jE ⟨h0, t3, -⟩ - K hK
      have h0 : (F 0) = .pointer (some ⟨g, 0, none⟩) := h0
      rw [h0] at t3
      clear h0
      go_simp
      exact hK _ _ jE rfl (fun _ _ _ h => h)
    · refine stepL_plain rfl ?_
      rintro F a w1 jE ⟨h1, t4, -⟩ - K hK
      have h1 : (F 1) = .pointer (some ⟨g, 0, none⟩) := h1
      rw [h1] at t4
      clear h1
      go_simp
      exact hK _ _ jE rfl (fun _ _ _ h => h)
    · refine stepL_plain rfl ?_
      rintro F a w1 jE ⟨h2, t5, -⟩ - K hK
      have h2 : (F 2) = .pointer (some ⟨g, 4, none⟩) := h2
      rw [h2] at t5
      clear h2
      have c := (jE.blk B (by simp)).cell
      go_simp
      exact hK _ _ jE rfl (fun _ _ _ h => h)
    · refine stepL_plain rfl ?_
      rintro F a w1 jE - ⟨t0, -⟩ K hK
      have t0 : a.tmps[0]? = some (.pointer (some ⟨g, 0, none⟩)) := t0
      go_simp
      exact hK _ _ jE rfl (fun _ _ _ h => h)
    · refine stepL_plain rfl ?_
      rintro F a w1 jE ⟨h4, t7, -⟩ - K hK
      have h4 : (F 4) = .pointer (some ⟨g, 0, none⟩) := h4
      rw [h4] at t7
      clear h4
      go_simp
      exact hK _ _ jE rfl (fun _ _ _ h => h)
    · refine stepL_plain rfl ?_
      rintro F a w1 jE ⟨h5, t8, -⟩ - K hK
      have h5 : (F 5) = .pointer (some ⟨g, 0, none⟩) := h5
      rw [h5] at t8
      clear h5
      go_simp
      exact hK _ _ jE rfl (fun _ _ _ h => h)
    · refine stepL_plain rfl ?_
      rintro F a w1 jE ⟨h6, t9, -⟩ - K hK
      have h6 : (F 6) = .pointer (some ⟨g, 8, none⟩) := h6
      rw [h6] at t9
      clear h6
      have c := (jE.blk B (by simp)).cell
      go_simp
      exact hK _ _ jE rfl (fun _ _ _ h => h)
    · refine stepL_plain rfl ?_
      rintro F a w1 jE - ⟨t0, -⟩ K hK
      have t0 : a.tmps[0]? = some (.pointer (some ⟨g, 0, none⟩)) := t0
      go_simp
      exact hK _ _ jE rfl (fun _ _ _ h => h)
    · refine stepL_plain rfl ?_
      rintro F a w1 jE ⟨h8, t11, -⟩ - K hK
      have h8 : (F 8) = .pointer (some ⟨g, 0, none⟩) := h8
      rw [h8] at t11
      clear h8
      go_simp
      exact hK _ _ jE rfl (fun _ _ _ h => h)
    · refine stepL_plain rfl ?_
      rintro F a w1 jE ⟨h9, t12, -⟩ - K hK
      have h9 : (F 9) = .pointer (some ⟨g, 0, none⟩) := h9
      rw [h9] at t12
      clear h9
      go_simp
      exact hK _ _ jE rfl (fun _ _ _ h => h)
    · refine stepL_plain rfl ?_
      rintro F a w1 jE ⟨h10, t13, -⟩ - K hK
      have h10 : (F 10) = .pointer (some ⟨g, 10, none⟩) := h10
      rw [h10] at t13
      clear h10
      have c := (jE.blk B (by simp)).cell
      go_simp
      exact hK _ _ jE rfl (fun _ _ _ h => h)
    · refine stepL_plain rfl ?_
      rintro F a w1 jE - ⟨t0, -⟩ K hK
      have t0 : a.tmps[0]? = some (.pointer (some ⟨g, 0, none⟩)) := t0
      go_simp
      exact hK _ _ jE rfl (fun _ _ _ h => h)
    · refine stepL_plain rfl ?_
      rintro F a w1 jE ⟨h12, t15, -⟩ - K hK
      have h12 : (F 12) = .pointer (some ⟨g, 0, none⟩) := h12
      rw [h12] at t15
      clear h12
      go_simp
      exact hK _ _ jE rfl (fun _ _ _ h => h)
    · refine stepL_plain rfl ?_
      rintro F a w1 jE ⟨h13, t16, -⟩ - K hK
      have h13 : (F 13) = .pointer (some ⟨g, 0, none⟩) := h13
      rw [h13] at t16
      clear h13
      go_simp
      exact hK _ _ jE rfl (fun _ _ _ h => h)
    · refine stepL_plain rfl ?_
      rintro F a w1 jE ⟨h14, t17, -⟩ - K hK
      have h14 : (F 14) = .pointer (some ⟨g, 40, none⟩) := h14
      rw [h14] at t17
      clear h14
      have c := (jE.blk B (by simp)).cell
      go_simp
      exact hK _ _ jE rfl (fun _ _ _ h => h)
    · refine stepL_plain rfl ?_
      rintro F a w1 jE ⟨h3, t6, h7, t10, h11, t14, h15, t18, -⟩ - K hK
      have h3 : (F 3) = (.agg #[.int .u8 s.w.k, .int .i64 s.w.n]) := h3
      rw [h3] at t6
      clear h3
      have h7 : (F 7) = (.agg #[.int .u8 s.minw.k, .int .i64 s.minw.n]) := h7
      rw [h7] at t10
      clear h7
      have h11 : (F 11) = (.agg #[.int .u8 s.maxw.k, .int .i64 s.maxw.n]) := h11
      rw [h11] at t14
      clear h11
      have h15 : (F 15) = (.agg #[.int .u8 s.basis.k, .int .i64 s.basis.n]) := h15
      rw [h15] at t18
      clear h15
      go_simp
      have hx : Ext w1 (w1.alloc (.cells (wdC s) 40)) := (Ext.refl _).alloc _
      exact hK _ _ (jE.trans hx) (⟨_, rfl, Blk.new _ _ _⟩) (fun _ hj _ _ => (List.not_mem_nil hj).elim)
    · refine stepL_plain rfl ?_
      rintro F a w1 jE ⟨h16, t19, -⟩ - K hK
      have h16 : ∃ gq, (F 16) = .slice (some ⟨gq, 0, none⟩) 4 4 ∧ Blk w1 gq 40 (wdC s) := h16
      obtain ⟨gq, hv, hB⟩ := h16
      rw [hv] at t19
      go_simp
      with_reducible refine (unhide (c gq _ (hB.rdL rfl rfl))).mono ?_
      rintro e w2 ⟨rfl, hx⟩
      exact hK _ _ (jE.trans hx) (rfl) (fun _ hj _ _ => (List.not_mem_nil hj).elim)
    · refine stepL_plain rfl ?_
      rintro F a w1 jE ⟨h17, t20, -⟩ - K hK
      have h17 : (F 17) = .bool (ruleV s 2) := h17
      rw [h17] at t20
      clear h17
      go_simp
      exact hK _ _ jE rfl (fun _ _ _ h => h)
  · rintro F w9 jE ⟨h18, -⟩
    have h18 : (F 18) = .bool (ruleV s 2) := h18
    have hx := jE.ext (Ext.refl _) (by simp)
    clear jE c
    simp only [putL, Act.put, Nat.reduceAdd, Nat.zero_add, List.setIfInBounds_toArray, List.set_cons_succ, List.set_cons_zero]
    rw [h18]
    clear h18
    go_wp2_with fail
    go_ret
    exact ⟨rfl, hx⟩
set_option maxRecDepth 100000 in
set_option maxHeartbeats 1000000 in
theorem rule_3 (s : Sty) (g : Nat) (w : World) (B : Blk w g 45 s.cells) : Calls Try.prog 81 #[.pointer (some ⟨g, 0, none⟩)] w fun e w' => e = .returned (.bool (ruleV s 3)) ∧ Ext w w' := by
  have c := fun gq w h => hide (eachL_any 82 tallV (call_enter Try.func82 (by kernel_rfl) (by kernel_rfl)) ptall_any (some ⟨gq, 0, none⟩) 3 3 [s.h, s.minh, s.maxh] w h (by omega))
  go_enter Try.func81, Try.ntmps81
  go_upto_region 1 with fail
  refine wp_region_lin (by kernel_rfl) (fun w' => (ExtX w w' [])) (fun ii vv ww => match ii with | 0 => vv = .pointer (some ⟨g, 0, none⟩) | 1 => vv = .pointer (some ⟨g, 0, none⟩) | 2 => vv = .pointer (some ⟨g, 6, none⟩) | 3 => vv = (.agg #[.int .u8 s.h.k, .int .i64 s.h.n]) | 4 => vv = .pointer (some ⟨g, 0, none⟩) | 5 => vv = .pointer (some ⟨g, 0, none⟩) | 6 => vv = .pointer (some ⟨g, 12, none⟩) | 7 => vv = (.agg #[.int .u8 s.minh.k, .int .i64 s.minh.n]) | 8 => vv = .pointer (some ⟨g, 0, none⟩) | 9 => vv = .pointer (some ⟨g, 0, none⟩) | 10 => vv = .pointer (some ⟨g, 14, none⟩) | 11 => vv = (.agg #[.int .u8 s.maxh.k, .int .i64 s.maxh.n]) | 12 => ∃ gq, vv = .slice (some ⟨gq, 0, none⟩) 3 3 ∧ Blk ww gq 40 (hgC s) | 13 => vv = .bool (ruleV s 3) | 14 => vv = .bool (ruleV s 3) | _ => True) (fun ii => match ii with | 1 => [(0, 3)] | 2 => [(1, 4)] | 3 => [(2, 5)] | 5 => [(4, 7)] | 6 => [(5, 8)] | 7 => [(6, 9)] | 9 => [(8, 11)] | 10 => [(9, 12)] | 11 => [(10, 13)] | 12 => [(3, 6), (7, 10), (11, 14)] | 13 => [(12, 15)] | 14 => [(13, 16)] | _ => []) (fun ii => match ii with | 0 => [0] | 4 => [0] | 8 => [0] | _ => []) (fun ii => match ii with | 0 => [4, 5, 6, 8, 9, 10, 7, 11] | 1 => [4, 5, 6, 8, 9, 10, 7, 11] | 2 => [4, 5, 6, 8, 9, 10, 7, 11] | 3 => [4, 5, 6, 8, 9, 10, 7, 11] | 4 => [0, 1, 2, 8, 9, 10, 3, 11] | 5 => [0, 1, 2, 8, 9, 10, 3, 11] | 6 => [0, 1, 2, 8, 9, 10, 3, 11] | 7 => [0, 1, 2, 8, 9, 10, 3, 11] | 8 => [0, 1, 2, 4, 5, 6, 3, 7] | 9 => [0, 1, 2, 4, 5, 6, 3, 7] | 10 => [0, 1, 2, 4, 5, 6, 3, 7] | 11 => [0, 1, 2, 4, 5, 6, 3, 7] | _ => []) [14] [0, 1, 3, 7, 0, 16, 48, 112, 0, 256, 768, 1792, 4095, 8191, 16383] 17 rfl (by kernel_rfl) (ExtX.start _ _) ?_ ?_
  · rename_i hcont; clear hcont
    refine ⟨?_, ?_, ?_, ?_, ?_, ?_, ?_, ?_, ?_, ?_, ?_, ?_, ?_, ?_, ?_, trivial⟩
    · refine stepL_plain rfl ?_
      rintro F a w1 jE - ⟨t0, -⟩ K hK
      have t0 : a.tmps[0]? = some (.pointer (some ⟨g, 0, none⟩)) := t0
      go_simp
      exact hK _ _ jE rfl (fun _ _ _ h => h)
    · refine stepL_plain rfl ?_
      rintro F a w1 jE ⟨h0, t3, -⟩ - K hK
      have h0 : (F 0) = .pointer (some ⟨g, 0, none⟩) := h0
      rw [h0] at t3
      clear h0
      go_simp
      exact hK _ _ jE rfl (fun _ _ _ h => h)
    · refine stepL_plain rfl ?_
      rintro F a w1 jE ⟨h1, t4, -⟩ - K hK
      have h1 : (F 1) = .pointer (some ⟨g, 0, none⟩) := h1
      rw [h1] at t4
      clear h1
      go_simp
      exact hK _ _ jE rfl (fun _ _ _ h => h)
    · refine stepL_plain rfl ?_
      rintro F a w1 jE ⟨h2, t5, -⟩ - K hK
      have h2 : (F 2) = .pointer (some ⟨g, 6, none⟩) := h2
      rw [h2] at t5
      clear h2
      have c := (jE.blk B (by simp)).cell
      go_simp
      exact hK _ _ jE rfl (fun _ _ _ h => h)
    · refine stepL_plain rfl ?_
      rintro F a w1 jE - ⟨t0, -⟩ K hK
      have t0 : a.tmps[0]? = some (.pointer (some ⟨g, 0, none⟩)) := t0
      go_simp
      exact hK _ _ jE rfl (fun _ _ _ h => h)
    · refine stepL_plain rfl ?_
      rintro F a w1 jE ⟨h4, t7, -⟩ - K hK
      have h4 : (F 4) = .pointer (some ⟨g, 0, none⟩) := h4
      rw [h4] at t7
      clear h4
      go_simp
      exact hK _ _ jE rfl (fun _ _ _ h => h)
    · refine stepL_plain rfl ?_
      rintro F a w1 jE ⟨h5, t8, -⟩ - K hK
      have h5 : (F 5) = .pointer (some ⟨g, 0, none⟩) := h5
      rw [h5] at t8
      clear h5
      go_simp
      exact hK _ _ jE rfl (fun _ _ _ h => h)
    · refine stepL_plain rfl ?_
      rintro F a w1 jE ⟨h6, t9, -⟩ - K hK
      have h6 : (F 6) = .pointer (some ⟨g, 12, none⟩) := h6
      rw [h6] at t9
      clear h6
      have c := (jE.blk B (by simp)).cell
      go_simp
      exact hK _ _ jE rfl (fun _ _ _ h => h)
    · refine stepL_plain rfl ?_
      rintro F a w1 jE - ⟨t0, -⟩ K hK
      have t0 : a.tmps[0]? = some (.pointer (some ⟨g, 0, none⟩)) := t0
      go_simp
      exact hK _ _ jE rfl (fun _ _ _ h => h)
    · refine stepL_plain rfl ?_
      rintro F a w1 jE ⟨h8, t11, -⟩ - K hK
      have h8 : (F 8) = .pointer (some ⟨g, 0, none⟩) := h8
      rw [h8] at t11
      clear h8
      go_simp
      exact hK _ _ jE rfl (fun _ _ _ h => h)
    · refine stepL_plain rfl ?_
      rintro F a w1 jE ⟨h9, t12, -⟩ - K hK
      have h9 : (F 9) = .pointer (some ⟨g, 0, none⟩) := h9
      rw [h9] at t12
      clear h9
      go_simp
      exact hK _ _ jE rfl (fun _ _ _ h => h)
    · refine stepL_plain rfl ?_
      rintro F a w1 jE ⟨h10, t13, -⟩ - K hK
      have h10 : (F 10) = .pointer (some ⟨g, 14, none⟩) := h10
      rw [h10] at t13
      clear h10
      have c := (jE.blk B (by simp)).cell
      go_simp
      exact hK _ _ jE rfl (fun _ _ _ h => h)
    · refine stepL_plain rfl ?_
      rintro F a w1 jE ⟨h3, t6, h7, t10, h11, t14, -⟩ - K hK
      have h3 : (F 3) = (.agg #[.int .u8 s.h.k, .int .i64 s.h.n]) := h3
      rw [h3] at t6
      clear h3
      have h7 : (F 7) = (.agg #[.int .u8 s.minh.k, .int .i64 s.minh.n]) := h7
      rw [h7] at t10
      clear h7
      have h11 : (F 11) = (.agg #[.int .u8 s.maxh.k, .int .i64 s.maxh.n]) := h11
      rw [h11] at t14
      clear h11
      go_simp
      have hx : Ext w1 (w1.alloc (.cells (hgC s) 40)) := (Ext.refl _).alloc _
      exact hK _ _ (jE.trans hx) (⟨_, rfl, Blk.new _ _ _⟩) (fun _ hj _ _ => (List.not_mem_nil hj).elim)
    · refine stepL_plain rfl ?_
      rintro F a w1 jE ⟨h12, t15, -⟩ - K hK
      have h12 : ∃ gq, (F 12) = .slice (some ⟨gq, 0, none⟩) 3 3 ∧ Blk w1 gq 40 (hgC s) := h12
      obtain ⟨gq, hv, hB⟩ := h12
      rw [hv] at t15
      go_simp
      with_reducible refine (unhide (c gq _ (hB.rdL rfl rfl))).mono ?_
      rintro e w2 ⟨rfl, hx⟩
      exact hK _ _ (jE.trans hx) (rfl) (fun _ hj _ _ => (List.not_mem_nil hj).elim)
    · refine stepL_plain rfl ?_
      rintro F a w1 jE ⟨h13, t16, -⟩ - K hK
      have h13 : (F 13) = .bool (ruleV s 3) := h13
      rw [h13] at t16
      clear h13
      go_simp
      exact hK _ _ jE rfl (fun _ _ _ h => h)
  · rintro F w9 jE ⟨h14, -⟩
    have h14 : (F 14) = .bool (ruleV s 3) := h14
    have hx := jE.ext (Ext.refl _) (by simp)
    clear jE c
    simp only [putL, Act.put, Nat.reduceAdd, Nat.zero_add, List.setIfInBounds_toArray, List.set_cons_succ, List.set_cons_zero]
    rw [h14]
    clear h14
    go_wp2_with fail
    go_ret
    exact ⟨rfl, hx⟩
end Go.Proofs.Ytnolbmfjgfojhaa
