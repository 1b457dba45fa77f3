/- Graphs: the law GraphPlays (walk). -/
import Derived.Test.YtnolbmfjgfojhaaGrK
namespace Go.Proofs.Ytnolbmfjgfojhaa
open Go.RowKit
section
variable (t : Tr) (ns : List Nd) (av : List Int)
set_option maxRecDepth 100000 in
set_option maxHeartbeats 16000000 in
theorem law_grPlays (w : World) (h : TrIn w t ns av) (hm : t.nl ≤ maxLen) (ha : t.al ≤ maxLen) :
    Calls Try.prog 12 #[.agg t.cs] w fun e w' => e = .returned (.bool true) ∧ Ext w w' := by
  have cm := fun w h => hide (small_any t ns av w h hm ha)
  go_enter Try.func12, Try.ntmps12
  go_wp2_with fail
  refine (unhide (cm _ (h.ext ((Ext.refl _).alloc _)))).mono ?_
  rintro e w1 ⟨q, rfl, hq, hx⟩
  have BT : Blk w1 w.heap.size 25 t.cs := (Blk.new _ _ _).ext hx
  have E1 : Ext w w1 := ((Ext.refl _).alloc _).trans hx
  have HQ := hide hq
  have c1 := BT.cell
  have l1 := BT.lt
  clear hx cm hq
  cases q
  · go_wp2_with fail
    refine (works26_any _).mono ?_
    rintro e w2 ⟨rfl, hx⟩
    go_wp2_with fail
    go_ret
    exact ⟨rfl, E1.trans hx⟩
  obtain ⟨hn, hck⟩ := unhide HQ rfl
  have hT := TOk.of (by omega) hck
  have hl := h.nodes.nlen
  have hnl : t.nl ≤ 300 := by omega
  by_cases h120 : 120 < t.nl
  · have hI : (120 : Int) < (t.nl : Int) := by omega
    go_wp2_with fail
    refine (works26_any _).mono ?_
    rintro e w2 ⟨rfl, hx⟩
    go_wp2_with fail
    go_ret
    exact ⟨rfl, E1.trans hx⟩
  have hI : ¬ (120 : Int) < (t.nl : Int) := by omega
  have hN := h.nodes
  have hpos : 0 < t.nl := by have := hT.pos; omega
  obtain ⟨m, hmm⟩ : ∃ m, (rootsN ns ns.length).length = m := ⟨_, rfl⟩
  have hm1 : m ≤ 300 := by have := rootsN_len ns ns.length; omega
  have hm0 : 0 < m := by have := roots_pos hT; omega
  have cU := fun w h => hide (up_at t ns (by omega) hpos w h)
  have cU2 := fun w h => hide (refup_at t ns (by omega) hpos w h)
  have cD := fun w h => hide (down_at t ns (by omega) hpos w h)
  have cD2 := fun w h => hide (refdown_at t ns hT (by omega) w h)
  have cI := fun w h => hide (isles_is t ns hT (by omega) w h)
  have cI2 := fun w h => hide (refisles_is t ns hT (by omega) w h)
  have cS1 := fun u v w hu hv => hide (sameg_at u v t.nl (fU (parN ns) t.nl) (rowP (parN ns)) w hu hv hpos (by omega) (fun i _ => by have := rowP_len (parN ns) i; omega))
  have cS2 := fun u v w hu hv => hide (sameg_at u v t.nl (fD (parN ns)) (kidsP (parN ns) t.nl) w hu hv hpos (by omega) (fun i _ => by have := kidsP_len (parN ns) t.nl i; omega))
  have cS3 := fun u v w hu hv => hide (sameg_at u v m (fU (isQ ns) m) (rowP (isQ ns)) w hu hv hm0 (by omega) (fun i _ => by have := rowP_len (isQ ns) i; omega))
  have cE := fun A B c d w ha hb => hide (same_eq A B m c d (rootsN ns ns.length) w ha hb (by unfold maxLen; omega))
  have cW := fun w => hide (works26_any w)
  rw [hmm] at cI cI2
  clear HQ hn hck hm ha hl h hT hmm
  generalize hg : w.heap.size = g at *
  have HG := hide hg
  clear hg
  go_wp2_with fail
  refine (unhide (cI _ (hN.ext E1))).mono ?_
  rintro e w2 ⟨A1, A1', R1, c1', rfl, q1, q2, q3, hx⟩
  have I1 : GAt w2 (.agg #[.slice A1 m m, .slice A1' m m]) m (fU (isQ ns) m) (rowP (isQ ns)) := ⟨A1, A1', rfl, q1, q2⟩
  replace BT := BT.ext hx
  replace E1 := E1.trans hx
  clear hx q1 q2 c1 l1 cI
  go_upto_region 4 with fail
  have hx : Ext w2 (w2.alloc (.cells #[.slice A1 m m, .slice A1' m m] 55)) := (Ext.refl _).alloc _
  have B1 : Blk (w2.alloc (.cells #[.slice A1 m m, .slice A1' m m] 55)) w2.heap.size 55 #[.slice A1 m m, .slice A1' m m] := Blk.new _ _ _
  generalize w2.alloc (.cells #[.slice A1 m m, .slice A1' m m] 55) = w3 at *
  generalize w2.heap.size = g1 at *
  replace BT := BT.ext hx
  replace E1 := E1.trans hx
  replace I1 := I1.ext hx
  replace q3 := q3.ext hx
  clear hx w2
  have c1 := BT.cell
  have l1 := BT.lt
  go_wp2_with fail
  refine (unhide (cI2 _ (hN.ext E1))).mono ?_
  rintro e w4 ⟨A2, A2', R2, c2', rfl, q1, q2, q4, hx⟩
  have I2 : GAt w4 (.agg #[.slice A2 m m, .slice A2' m m]) m (fU (isQ ns) m) (rowP (isQ ns)) := ⟨A2, A2', rfl, q1, q2⟩
  replace BT := BT.ext hx
  replace B1 := B1.ext hx
  replace E1 := E1.trans hx
  replace I1 := I1.ext hx
  replace q3 := q3.ext hx
  clear hx q1 q2 c1 l1 cI2
  go_upto_region 5 with fail
  have hx : Ext w4 (w4.alloc (.cells #[.slice A2 m m, .slice A2' m m] 55)) := (Ext.refl _).alloc _
  have B2 : Blk (w4.alloc (.cells #[.slice A2 m m, .slice A2' m m] 55)) w4.heap.size 55 #[.slice A2 m m, .slice A2' m m] := Blk.new _ _ _
  generalize w4.alloc (.cells #[.slice A2 m m, .slice A2' m m] 55) = w5 at *
  generalize w4.heap.size = g2 at *
  replace BT := BT.ext hx
  replace B1 := B1.ext hx
  replace E1 := E1.trans hx
  replace I1 := I1.ext hx
  replace I2 := I2.ext hx
  replace q3 := q3.ext hx
  replace q4 := q4.ext hx
  clear hx w4
  refine wp_region_lin (by kernel_rfl) (fun w' => (ExtX w5 w' [])) (fun ii vv ww => match ii with | 0 => vv = (.agg t.cs) | 1 => GAt ww vv t.nl (fU (parN ns) t.nl) (rowP (parN ns)) | 2 => vv = (.agg t.cs) | 3 => GAt ww vv t.nl (fU (parN ns) t.nl) (rowP (parN ns)) | 4 => vv = .bool true | 5 => vv = .bool true | 6 => vv = (.agg t.cs) | 7 => GAt ww vv t.nl (fD (parN ns)) (kidsP (parN ns) t.nl) | 8 => vv = (.agg t.cs) | 9 => GAt ww vv t.nl (fD (parN ns)) (kidsP (parN ns) t.nl) | 10 => vv = .bool true | 11 => vv = .bool true | 12 => vv = .bool true | 13 => vv = (.agg #[.slice A1 m m, .slice A1' m m]) | 14 => vv = (.agg #[.slice A2 m m, .slice A2' m m]) | 15 => vv = .bool true | 16 => vv = .bool true | 17 => vv = .bool true | 18 => vv = .slice R1 m c1' | 19 => vv = .slice R2 m c2' | 20 => vv = .bool true | 21 => vv = .bool true | 22 => vv = .bool true | 23 => vv = .bool true | 24 => vv = .bool true | 25 => vv = .bool true | _ => True) (fun ii => match ii with | 1 => [(0, 27)] | 3 => [(2, 29)] | 4 => [(1, 28), (3, 30)] | 5 => [(4, 31)] | 6 => [(5, 32)] | 7 => [(6, 33), (5, 32)] | 8 => [(5, 32)] | 9 => [(8, 35), (5, 32)] | 10 => [(7, 34), (9, 36), (5, 32)] | 11 => [(5, 32), (10, 37)] | 12 => [(11, 38)] | 13 => [(12, 39)] | 14 => [(12, 39)] | 15 => [(13, 40), (14, 41), (12, 39)] | 16 => [(12, 39), (15, 42)] | 17 => [(16, 43)] | 18 => [(17, 44)] | 19 => [(17, 44)] | 20 => [(18, 45), (19, 46), (17, 44)] | 21 => [(17, 44), (20, 47)] | 22 => [(21, 48)] | 23 => [(22, 49)] | 24 => [(22, 49), (23, 50)] | 25 => [(24, 51)] | _ => []) (fun ii => match ii with | 0 => [1] | 2 => [1] | 6 => [1] | 8 => [1] | 13 => [3] | 14 => [5] | 18 => [4] | 19 => [6] | _ => []) (fun ii => match ii with | 0 => [2] | 1 => [2] | 2 => [0, 1] | 3 => [1] | 6 => [5, 8] | 7 => [5, 8] | 8 => [5, 6, 7] | 9 => [7, 5] | 10 => [5] | 13 => [12, 14] | 14 => [12, 13] | 15 => [12] | 18 => [17, 19] | 19 => [17, 18] | 20 => [17] | 23 => [22] | _ => []) [25] [0, 1, 0, 7, 15, 31, 63, 127, 63, 511, 1023, 2047, 4095, 8191, 8191, 32767, 65535, 131071, 262143, 262143, 1048575, 2097151, 4194303, 8388607, 16777215, 33554431] 52 rfl (by kernel_rfl) (ExtX.start _ _) ?_ ?_
  · rename_i hcont; clear hcont
    refine ⟨?_, ?_, ?_, ?_, ?_, ?_, ?_, ?_, ?_, ?_, ?_, ?_, ?_, ?_, ?_, ?_, ?_, ?_, ?_, ?_, ?_, ?_, ?_, ?_, ?_, ?_, trivial⟩
    · refine stepL_plain rfl ?_
      rintro F a w1 jE - ⟨t1, -⟩ K hK
      have t1 : a.tmps[1]? = some (.pointer (some ⟨g, 0, none⟩)) := t1
      refine wp_load_blk 25 _ rfl g (eval_tmp t1) 25 t.cs _ (jE.blk BT (by simp)) Try.underlying25 rfl (info_tree _) ?_
      exact hK _ _ jE rfl (fun _ _ _ h => h)
    · refine stepL_plain rfl ?_
      rintro F a w1 jE ⟨h0, t27, -⟩ - K hK
      have h0 : (F 0) = (.agg t.cs) := h0
      rw [h0] at t27
      clear h0
      go_simp
      with_reducible refine (unhide (cU _ (hN.ext (E1.trans (jE.ext (Ext.refl _) (by simp)))))).mono ?_
      rintro e w2 ⟨⟨v', rfl, hv⟩, hx⟩
      exact hK _ _ (jE.trans hx) hv (by intro jq hj uq h; have hj : jq ∈ [2] := hj; simp only [List.mem_singleton] at hj; subst hj; exact h)
    · refine stepL_plain rfl ?_
      rintro F a w1 jE - ⟨t1, -⟩ K hK
      have t1 : a.tmps[1]? = some (.pointer (some ⟨g, 0, none⟩)) := t1
      refine wp_load_blk 25 _ rfl g (eval_tmp t1) 25 t.cs _ (jE.blk BT (by simp)) Try.underlying25 rfl (info_tree _) ?_
      exact hK _ _ jE rfl (fun _ _ _ h => h)
    · refine stepL_plain rfl ?_
      rintro F a w1 jE ⟨h2, t29, -⟩ - K hK
      have h2 : (F 2) = (.agg t.cs) := h2
      rw [h2] at t29
      clear h2
      go_simp
      with_reducible refine (unhide (cU2 _ (hN.ext (E1.trans (jE.ext (Ext.refl _) (by simp)))))).mono ?_
      rintro e w2 ⟨⟨v', rfl, hv⟩, hx⟩
      exact hK _ _ (jE.trans hx) hv (by intro jq hj uq h; have hj : jq ∈ [1] := hj; simp only [List.mem_singleton] at hj; subst hj; exact (have h : GAt w1 uq t.nl (fU (parN ns) t.nl) (rowP (parN ns)) := h; h.ext hx))
    · refine stepL_plain rfl ?_
      rintro F a w1 jE ⟨h1, t28, h3, t30, -⟩ - K hK
      have h1 : GAt w1 (F 1) t.nl (fU (parN ns) t.nl) (rowP (parN ns)) := h1
      have h3 : GAt w1 (F 3) t.nl (fU (parN ns) t.nl) (rowP (parN ns)) := h3
      go_simp
      with_reducible refine (unhide (cS1 _ _ _ h1 h3)).mono ?_
      rintro e w2 ⟨rfl, hx⟩
      exact hK _ _ (jE.trans hx) (rfl) (fun _ hj _ _ => (List.not_mem_nil hj).elim)
    · refine stepL_plain rfl ?_
      rintro F a w1 jE ⟨h4, t31, -⟩ - K hK
      have h4 : (F 4) = .bool true := h4
      rw [h4] at t31
      clear h4
      go_simp
      exact hK _ _ jE rfl (fun _ _ _ h => h)
    · refine stepL_of ?_
      rintro F a w1 jE ⟨h5, t32, -⟩ ⟨t1, -⟩ K hK
      have h5 : (F 5) = .bool true := h5
      rw [h5] at t32
      clear h5
      have t1 : a.tmps[1]? = some (.pointer (some ⟨g, 0, none⟩)) := t1
      refine stepY ((wanted_of 5 true 32 _ rfl rfl t32).trans rfl) ?_
      refine wp_load_blk 25 _ rfl g (eval_tmp t1) 25 t.cs _ (jE.blk BT (by simp)) Try.underlying25 rfl (info_tree _) ?_
      exact hK _ _ jE rfl (fun _ _ _ h => h)
    · refine stepL_of ?_
      rintro F a w1 jE ⟨h6, t33, h5, t32, -⟩ - K hK
      have h6 : (F 6) = (.agg t.cs) := h6
      rw [h6] at t33
      clear h6
      have h5 : (F 5) = .bool true := h5
      rw [h5] at t32
      clear h5
      refine stepY ((wanted_of 5 true 32 _ rfl rfl t32).trans rfl) ?_
      go_simp
      with_reducible refine (unhide (cD _ (hN.ext (E1.trans (jE.ext (Ext.refl _) (by simp)))))).mono ?_
      rintro e w2 ⟨⟨v', rfl, hv⟩, hx⟩
      exact hK _ _ (jE.trans hx) hv (by intro jq hj uq h; have hj : jq ∈ [5, 8] := hj; simp only [List.mem_cons, List.not_mem_nil, or_false] at hj; rcases hj with rfl | rfl; exact h; exact h)
    · refine stepL_of ?_
      rintro F a w1 jE ⟨h5, t32, -⟩ ⟨t1, -⟩ K hK
      have h5 : (F 5) = .bool true := h5
      rw [h5] at t32
      clear h5
      have t1 : a.tmps[1]? = some (.pointer (some ⟨g, 0, none⟩)) := t1
      refine stepY ((wanted_of 5 true 32 _ rfl rfl t32).trans rfl) ?_
      refine wp_load_blk 25 _ rfl g (eval_tmp t1) 25 t.cs _ (jE.blk BT (by simp)) Try.underlying25 rfl (info_tree _) ?_
      exact hK _ _ jE rfl (fun _ _ _ h => h)
    · refine stepL_of ?_
      rintro F a w1 jE ⟨h8, t35, h5, t32, -⟩ - K hK
      have h8 : (F 8) = (.agg t.cs) := h8
      rw [h8] at t35
      clear h8
      have h5 : (F 5) = .bool true := h5
      rw [h5] at t32
      clear h5
      refine stepY ((wanted_of 5 true 32 _ rfl rfl t32).trans rfl) ?_
      go_simp
      with_reducible refine (unhide (cD2 _ (hN.ext (E1.trans (jE.ext (Ext.refl _) (by simp)))))).mono ?_
      rintro e w2 ⟨⟨v', rfl, hv⟩, hx⟩
      exact hK _ _ (jE.trans hx) hv (by intro jq hj uq h; have hj : jq ∈ [7, 5] := hj; simp only [List.mem_cons, List.not_mem_nil, or_false] at hj; rcases hj with rfl | rfl; exact (have h : GAt w1 uq t.nl (fD (parN ns)) (kidsP (parN ns) t.nl) := h; h.ext hx); exact h)
    · refine stepL_of ?_
      rintro F a w1 jE ⟨h7, t34, h9, t36, h5, t32, -⟩ - K hK
      have h7 : GAt w1 (F 7) t.nl (fD (parN ns)) (kidsP (parN ns) t.nl) := h7
      have h9 : GAt w1 (F 9) t.nl (fD (parN ns)) (kidsP (parN ns) t.nl) := h9
      have h5 : (F 5) = .bool true := h5
      rw [h5] at t32
      clear h5
      refine stepY ((wanted_of 5 true 32 _ rfl rfl t32).trans rfl) ?_
      go_simp
      with_reducible refine (unhide (cS2 _ _ _ h7 h9)).mono ?_
      rintro e w2 ⟨rfl, hx⟩
      exact hK _ _ (jE.trans hx) (rfl) (by intro jq hj uq h; have hj : jq ∈ [5] := hj; simp only [List.mem_singleton] at hj; subst hj; exact h)
    · refine stepL_plain rfl ?_
      rintro F a w1 jE ⟨h5, t32, h10, t37, -⟩ - K hK
      have h5 : (F 5) = .bool true := h5
      rw [h5] at t32
      clear h5
      have h10 : (F 10) = .bool true := h10
      rw [h10] at t37
      clear h10
      go_simp
      exact hK _ _ jE rfl (fun _ _ _ h => h)
    · refine stepL_plain rfl ?_
      rintro F a w1 jE ⟨h11, t38, -⟩ - K hK
      have h11 : (F 11) = .bool true := h11
      rw [h11] at t38
      clear h11
      go_simp
      exact hK _ _ jE rfl (fun _ _ _ h => h)
    · refine stepL_of ?_
      rintro F a w1 jE ⟨h12, t39, -⟩ ⟨t3, -⟩ K hK
      have h12 : (F 12) = .bool true := h12
      rw [h12] at t39
      clear h12
      have t3 : a.tmps[3]? = some (.pointer (some ⟨g1, 0, none⟩)) := t3
      refine stepY ((wanted_of 12 true 39 _ rfl rfl t39).trans rfl) ?_
      refine wp_load_blk 55 _ rfl g1 (eval_tmp t3) 55 #[.slice A1 m m, .slice A1' m m] _ (jE.blk B1 (by simp)) Try.underlying55 rfl (by kernel_rfl) ?_
      exact hK _ _ jE rfl (fun _ _ _ h => h)
    · refine stepL_of ?_
      rintro F a w1 jE ⟨h12, t39, -⟩ ⟨t5, -⟩ K hK
      have h12 : (F 12) = .bool true := h12
      rw [h12] at t39
      clear h12
      have t5 : a.tmps[5]? = some (.pointer (some ⟨g2, 0, none⟩)) := t5
      refine stepY ((wanted_of 12 true 39 _ rfl rfl t39).trans rfl) ?_
      refine wp_load_blk 55 _ rfl g2 (eval_tmp t5) 55 #[.slice A2 m m, .slice A2' m m] _ (jE.blk B2 (by simp)) Try.underlying55 rfl (by kernel_rfl) ?_
      exact hK _ _ jE rfl (fun _ _ _ h => h)
    · refine stepL_of ?_
      rintro F a w1 jE ⟨h13, t40, h14, t41, h12, t39, -⟩ - K hK
      have h13 : (F 13) = (.agg #[.slice A1 m m, .slice A1' m m]) := h13
      rw [h13] at t40
      clear h13
      have h14 : (F 14) = (.agg #[.slice A2 m m, .slice A2' m m]) := h14
      rw [h14] at t41
      clear h14
      have h12 : (F 12) = .bool true := h12
      rw [h12] at t39
      clear h12
      refine stepY ((wanted_of 12 true 39 _ rfl rfl t39).trans rfl) ?_
      go_simp
      with_reducible refine (unhide (cS3 _ _ _ (I1.ext (jE.ext (Ext.refl _) (by simp))) (I2.ext (jE.ext (Ext.refl _) (by simp))))).mono ?_
      rintro e w2 ⟨rfl, hx⟩
      exact hK _ _ (jE.trans hx) (rfl) (by intro jq hj uq h; have hj : jq ∈ [12] := hj; simp only [List.mem_singleton] at hj; subst hj; exact h)
    · refine stepL_plain rfl ?_
      rintro F a w1 jE ⟨h12, t39, h15, t42, -⟩ - K hK
      have h12 : (F 12) = .bool true := h12
      rw [h12] at t39
      clear h12
      have h15 : (F 15) = .bool true := h15
      rw [h15] at t42
      clear h15
      go_simp
      exact hK _ _ jE rfl (fun _ _ _ h => h)
    · refine stepL_plain rfl ?_
      rintro F a w1 jE ⟨h16, t43, -⟩ - K hK
      have h16 : (F 16) = .bool true := h16
      rw [h16] at t43
      clear h16
      go_simp
      exact hK _ _ jE rfl (fun _ _ _ h => h)
    · refine stepL_of ?_
      rintro F a w1 jE ⟨h17, t44, -⟩ ⟨t4, -⟩ K hK
      have h17 : (F 17) = .bool true := h17
      rw [h17] at t44
      clear h17
      have t4 : a.tmps[4]? = some (.slice R1 m c1') := t4
      refine stepY ((wanted_of 17 true 44 _ rfl rfl t44).trans rfl) ?_
      go_simp
      exact hK _ _ jE rfl (fun _ _ _ h => h)
    · refine stepL_of ?_
      rintro F a w1 jE ⟨h17, t44, -⟩ ⟨t6, -⟩ K hK
      have h17 : (F 17) = .bool true := h17
      rw [h17] at t44
      clear h17
      have t6 : a.tmps[6]? = some (.slice R2 m c2') := t6
      refine stepY ((wanted_of 17 true 44 _ rfl rfl t44).trans rfl) ?_
      go_simp
      exact hK _ _ jE rfl (fun _ _ _ h => h)
    · refine stepL_of ?_
      rintro F a w1 jE ⟨h18, t45, h19, t46, h17, t44, -⟩ - K hK
      have h18 : (F 18) = .slice R1 m c1' := h18
      rw [h18] at t45
      clear h18
      have h19 : (F 19) = .slice R2 m c2' := h19
      rw [h19] at t46
      clear h19
      have h17 : (F 17) = .bool true := h17
      rw [h17] at t44
      clear h17
      refine stepY ((wanted_of 17 true 44 _ rfl rfl t44).trans rfl) ?_
      go_simp
      with_reducible refine (unhide (cE _ _ _ _ _ (q3.ext (jE.ext (Ext.refl _) (by simp))) (q4.ext (jE.ext (Ext.refl _) (by simp))))).mono ?_
      rintro e w2 ⟨rfl, hx⟩
      exact hK _ _ (jE.trans hx) (rfl) (by intro jq hj uq h; have hj : jq ∈ [17] := hj; simp only [List.mem_singleton] at hj; subst hj; exact h)
    · refine stepL_plain rfl ?_
      rintro F a w1 jE ⟨h17, t44, h20, t47, -⟩ - K hK
      have h17 : (F 17) = .bool true := h17
      rw [h17] at t44
      clear h17
      have h20 : (F 20) = .bool true := h20
      rw [h20] at t47
      clear h20
      go_simp
      exact hK _ _ jE rfl (fun _ _ _ h => h)
    · refine stepL_plain rfl ?_
      rintro F a w1 jE ⟨h21, t48, -⟩ - K hK
      have h21 : (F 21) = .bool true := h21
      rw [h21] at t48
      clear h21
      go_simp
      exact hK _ _ jE rfl (fun _ _ _ h => h)
    · refine stepL_of ?_
      rintro F a w1 jE ⟨h22, t49, -⟩ - K hK
      have h22 : (F 22) = .bool true := h22
      rw [h22] at t49
      clear h22
      refine stepY ((wanted_of 22 true 49 _ rfl rfl t49).trans rfl) ?_
      go_simp
      with_reducible refine (unhide (cW _)).mono ?_
      rintro e w2 ⟨rfl, hx⟩
      exact hK _ _ (jE.trans hx) (rfl) (by intro jq hj uq h; have hj : jq ∈ [22] := hj; simp only [List.mem_singleton] at hj; subst hj; exact h)
    · refine stepL_plain rfl ?_
      rintro F a w1 jE ⟨h22, t49, h23, t50, -⟩ - K hK
      have h22 : (F 22) = .bool true := h22
      rw [h22] at t49
      clear h22
      have h23 : (F 23) = .bool true := h23
      rw [h23] at t50
      clear h23
      go_simp
      exact hK _ _ jE rfl (fun _ _ _ h => h)
    · refine stepL_plain rfl ?_
      rintro F a w1 jE ⟨h24, t51, -⟩ - K hK
      have h24 : (F 24) = .bool true := h24
      rw [h24] at t51
      clear h24
      go_simp
      exact hK _ _ jE rfl (fun _ _ _ h => h)
  · rintro F w9 jE ⟨h25, -⟩
    have h25 : (F 25) = .bool true := h25
    have hx := jE.ext (Ext.refl _) (by simp)
    simp only [putL, Act.put, Nat.reduceAdd, Nat.zero_add, List.setIfInBounds_toArray, List.set_cons_succ, List.set_cons_zero]
    rw [h25]
    go_wp2_with fail
    go_ret
    exact ⟨rfl, E1.trans hx⟩
end
end Go.Proofs.Ytnolbmfjgfojhaa
