/- Trees: the law TreeKin (walk). -/
import Derived.Test.YtnolbmfjgfojhaaTyS
import Derived.Test.YtnolbmfjgfojhaaTyG
import Derived.Test.YtnolbmfjgfojhaaTyC
namespace Go.Proofs.Ytnolbmfjgfojhaa
open Go.RowKit
section
variable (t : Tr) (ns : List Nd) (av : List Int)
set_option maxRecDepth 100000 in
set_option maxHeartbeats 16000000 in
theorem law_tyKin (at_ : Int) (w : World) (h : TrIn w t ns av) (hm : t.nl ≤ 17592186044415) (ha : t.al ≤ 17592186044415) :
    Calls Try.prog 4 #[.agg t.cs, .int .i64 at_] w fun e w' => e = .returned (.bool true) ∧ Ext w w' := by
  have cm := fun w h => hide (small05_any t ns av w h hm ha)
  obtain ⟨q, hq⟩ : ∃ q, (!vastV ns t.al && decide (t.nl ≤ 700)) = q := ⟨_, rfl⟩
  rw [hq] at cm
  have HQ := hide hq
  clear hq
  go_enter Try.func4, Try.ntmps4
  go_wp2_with fail
  refine (unhide (cm _ (h.ext ((Ext.refl _).alloc _)))).mono ?_
  rintro e w1 ⟨rfl, hx⟩
  have BT : Blk w1 w.heap.size 25 t.cs := (Blk.new _ _ _).ext hx
  have E1 : Ext w w1 := ((Ext.refl _).alloc _).trans hx
  clear hx cm
  have c1 := BT.cell
  have l1 := BT.lt
  cases q
  · go_wp2_with fail
    refine (works05_any _).mono ?_
    rintro e w2 ⟨rfl, hx⟩
    go_wp2_with fail
    go_ret
    exact ⟨rfl, E1.trans hx⟩
  by_cases h150 : 150 < t.nl
  · have hI : (150 : Int) < ((t.nl : Nat) : Int) := by omega
    go_wp2_with fail
    refine (works05_any _).mono ?_
    rintro e w2 ⟨rfl, hx⟩
    go_wp2_with fail
    go_ret
    exact ⟨rfl, E1.trans hx⟩
  have hI : ¬ (150 : Int) < ((t.nl : Nat) : Int) := by omega
  have hl := h.nodes.nlen
  have hm1 : t.nl ≤ 1000000 := by omega
  have hm' : t.nl ≤ maxLen := by unfold maxLen; omega
  have ha' : t.al ≤ maxLen := by unfold maxLen; omega
  have hN := h.nodes
  have hL1 : (depsN ns).length ≤ maxLen := by rw [depsN_len]; omega
  have hL2 : (lastsN ns).length ≤ maxLen := by rw [lastsN_len]; omega
  have cD := fun w h => hide ((depths_any t ns w h hm1).mono fun _ _ h => h.at_)
  have cD2 := fun w h => hide ((refdepths_any t ns w h hm1).mono fun _ _ h => h.at_)
  have cL := fun w h => hide ((last_any t ns w h hm1).mono fun _ _ h => h.at_)
  have cL2 := fun w h => hide ((reflast_any t ns w h hm1).mono fun _ _ h => h.at_)
  have cS := fun u v xs w hu hv hl => hide (same05_at u v xs w hu hv hl)
  have cS1 := fun u v w hu hv => cS u v _ w hu hv hL1
  have cS2 := fun u v w hu hv => cS u v _ w hu hv hL2
  have cS3 := fun i u v w hu hv => cS u v (kidsN ns t.nl i) w hu hv (by have := kidsN_len ns t.nl i; omega)
  have cK := fun w h => hide (kids_any t ns w h hm1)
  have cK2 := fun w h => hide (refkids_any t ns w h hm1)
  have cC := fun w h => hide (rcheck_any t ns av w h hm1 ha')
  have cR := fun z w h => hide (root_all t ns z w h hm')
  have cR2 := fun z w h => hide (refroot_all t ns z w h hm')
  have cW := fun w => hide (works05_any w)
  have HL := hide hl
  have hT := h
  clear HQ hm ha hL1 hL2 cS h hl
  go_wp2_with fail
  refine (unhide (cK _ (hN.ext E1))).mono ?_
  rintro e w2 ⟨Ak, rfl, RK, hx⟩
  replace RK := RK.mono E1.size
  replace E1 := E1.trans hx
  replace BT := BT.ext hx
  clear hx c1 l1
  have c1 := BT.cell
  have l1 := BT.lt
  go_wp2_with fail
  refine (unhide (cK2 _ (hN.ext E1))).mono ?_
  rintro e w3 ⟨Ak2, rfl, RK2, hx⟩
  replace RK2 := RK2.mono E1.size
  replace E1 := E1.trans hx
  replace BT := BT.ext hx
  replace RK := RK.ext hx
  clear hx c1 l1 cK cK2
  generalize hg : w.heap.size = g at *
  have HG := hide hg
  clear hg
  go_upto_region 5 with fail
  refine wp_region_lin (by kernel_rfl) (fun w' => (ExtX w3 w' [])) (fun ii vv ww => match ii with | 0 => vv = .slice Ak t.nl t.nl | 1 => vv = .int .i64 ((t.nl : Nat) : Int) | 2 => vv = .slice Ak2 t.nl t.nl | 3 => vv = .int .i64 ((t.nl : Nat) : Int) | 4 => vv = .bool false | 5 => vv = .bool false | 6 => vv = (.agg t.cs) | 7 => SlAt ww vv (depsN ns) | 8 => vv = (.agg t.cs) | 9 => SlAt ww vv (depsN ns) | 10 => vv = .bool true | 11 => vv = .bool false | 12 => vv = .bool false | 13 => vv = .bool false | 14 => vv = (.agg t.cs) | 15 => SlAt ww vv (lastsN ns) | 16 => vv = (.agg t.cs) | 17 => SlAt ww vv (lastsN ns) | 18 => vv = .bool true | 19 => vv = .bool false | 20 => vv = .bool false | _ => True) (fun ii => match ii with | 1 => [(0, 25)] | 3 => [(2, 27)] | 4 => [(1, 26), (3, 28)] | 5 => [(4, 29)] | 6 => [(5, 30)] | 7 => [(6, 31), (5, 30)] | 8 => [(5, 30)] | 9 => [(8, 33), (5, 30)] | 10 => [(7, 32), (9, 34), (5, 30)] | 11 => [(10, 35), (5, 30)] | 12 => [(5, 30), (11, 36)] | 13 => [(12, 37)] | 14 => [(13, 38)] | 15 => [(14, 39), (13, 38)] | 16 => [(13, 38)] | 17 => [(16, 41), (13, 38)] | 18 => [(15, 40), (17, 42), (13, 38)] | 19 => [(18, 43), (13, 38)] | 20 => [(13, 38), (19, 44)] | _ => []) (fun ii => match ii with | 0 => [5] | 2 => [6] | 6 => [2] | 8 => [2] | 14 => [2] | 16 => [2] | _ => []) (fun ii => match ii with | 0 => [2, 3] | 1 => [2, 3] | 2 => [0, 1] | 3 => [0, 1] | 6 => [5, 8] | 7 => [5, 8] | 8 => [5, 6, 7] | 9 => [7, 5] | 10 => [5] | 11 => [5] | 14 => [13, 16] | 15 => [13, 16] | 16 => [13, 14, 15] | 17 => [15, 13] | 18 => [13] | 19 => [13] | _ => []) [20] [0, 1, 0, 4, 15, 31, 63, 127, 63, 511, 1023, 2047, 4095, 8191, 16383, 32767, 16383, 131071, 262143, 524287, 1048575] 94 rfl (by kernel_rfl) (ExtX.start _ _) ?_ ?_
  · rename_i hcont; clear hcont
    refine ⟨?_, ?_, ?_, ?_, ?_, ?_, ?_, ?_, ?_, ?_, ?_, ?_, ?_, ?_, ?_, ?_, ?_, ?_, ?_, ?_, ?_, trivial⟩
    · refine stepL_plain rfl ?_
      rintro F a w1 jE - ⟨t5, -⟩ K hK
      have t5 : a.tmps[5]? = some (.slice Ak t.nl t.nl) := t5
      go_simp
      exact hK _ _ jE rfl (fun _ _ _ h => h)
    · refine stepL_plain rfl ?_
      rintro F a w1 jE ⟨h0, t25, -⟩ - K hK
      have h0 : (F 0) = .slice Ak t.nl t.nl := h0
      rw [h0] at t25
      clear h0
      go_simp
      exact hK _ _ jE rfl (fun _ _ _ h => h)
    · refine stepL_plain rfl ?_
      rintro F a w1 jE - ⟨t6, -⟩ K hK
      have t6 : a.tmps[6]? = some (.slice Ak2 t.nl t.nl) := t6
      go_simp
      exact hK _ _ jE rfl (fun _ _ _ h => h)
    · refine stepL_plain rfl ?_
      rintro F a w1 jE ⟨h2, t27, -⟩ - K hK
      have h2 : (F 2) = .slice Ak2 t.nl t.nl := h2
      rw [h2] at t27
      clear h2
      go_simp
      exact hK _ _ jE rfl (fun _ _ _ h => h)
    · refine stepL_plain rfl ?_
      rintro F a w1 jE ⟨h1, t26, h3, t28, -⟩ - K hK
      have h1 : (F 1) = .int .i64 ((t.nl : Nat) : Int) := h1
      rw [h1] at t26
      clear h1
      have h3 : (F 3) = .int .i64 ((t.nl : Nat) : Int) := h3
      rw [h3] at t28
      clear h3
      go_simp
      exact hK _ _ jE rfl (fun _ _ _ h => h)
    · refine stepL_plain rfl ?_
      rintro F a w1 jE ⟨h4, t29, -⟩ - K hK
      have h4 : (F 4) = .bool false := h4
      rw [h4] at t29
      clear h4
      go_simp
      exact hK _ _ jE rfl (fun _ _ _ h => h)
    · refine stepL_of ?_
      rintro F a w1 jE ⟨h5, t30, -⟩ ⟨t2, -⟩ K hK
      have h5 : (F 5) = .bool false := h5
      rw [h5] at t30
      clear h5
      have t2 : a.tmps[2]? = some (.pointer (some ⟨g, 0, none⟩)) := t2
      refine stepY ((wanted_of 5 false 30 _ rfl rfl t30).trans rfl) ?_
      have c := (jE.blk BT (by simp)).cell
      refine wp_load_blk 25 _ rfl g (eval_tmp t2) 25 t.cs _ (jE.blk BT (by simp)) Try.underlying25 rfl (info_tree _) ?_
      exact hK _ _ jE rfl (fun _ _ _ h => h)
    · refine stepL_of ?_
      rintro F a w1 jE ⟨h6, t31, h5, t30, -⟩ - K hK
      have h6 : (F 6) = (.agg t.cs) := h6
      rw [h6] at t31
      clear h6
      have h5 : (F 5) = .bool false := h5
      rw [h5] at t30
      clear h5
      refine stepY ((wanted_of 5 false 30 _ rfl rfl t30).trans rfl) ?_
      go_simp
      with_reducible refine (unhide (cD _ (hN.ext (E1.trans (jE.ext (Ext.refl _) (by simp)))))).mono ?_
      rintro e w2 ⟨⟨v', rfl, hv⟩, hx⟩
      exact hK _ _ (jE.trans hx) hv (by intro jq hj uq h; have hj : jq ∈ [5, 8] := hj; simp only [List.mem_cons, List.not_mem_nil, or_false] at hj; rcases hj with rfl | rfl; exact h; exact h)
    · refine stepL_of ?_
      rintro F a w1 jE ⟨h5, t30, -⟩ ⟨t2, -⟩ K hK
      have h5 : (F 5) = .bool false := h5
      rw [h5] at t30
      clear h5
      have t2 : a.tmps[2]? = some (.pointer (some ⟨g, 0, none⟩)) := t2
      refine stepY ((wanted_of 5 false 30 _ rfl rfl t30).trans rfl) ?_
      have c := (jE.blk BT (by simp)).cell
      refine wp_load_blk 25 _ rfl g (eval_tmp t2) 25 t.cs _ (jE.blk BT (by simp)) Try.underlying25 rfl (info_tree _) ?_
      exact hK _ _ jE rfl (fun _ _ _ h => h)
    · refine stepL_of ?_
      rintro F a w1 jE ⟨h8, t33, h5, t30, -⟩ - K hK
      have h8 : (F 8) = (.agg t.cs) := h8
      rw [h8] at t33
      clear h8
      have h5 : (F 5) = .bool false := h5
      rw [h5] at t30
      clear h5
      refine stepY ((wanted_of 5 false 30 _ rfl rfl t30).trans rfl) ?_
      go_simp
      with_reducible refine (unhide (cD2 _ (hN.ext (E1.trans (jE.ext (Ext.refl _) (by simp)))))).mono ?_
      rintro e w2 ⟨⟨v', rfl, hv⟩, hx⟩
      exact hK _ _ (jE.trans hx) hv (by intro jq hj uq h; have hj : jq ∈ [7, 5] := hj; simp only [List.mem_cons, List.not_mem_nil, or_false] at hj; rcases hj with rfl | rfl; exact (have h : SlAt w1 uq (depsN ns) := h; h.ext hx); exact h)
    · refine stepL_of ?_
      rintro F a w1 jE ⟨h7, t32, h9, t34, h5, t30, -⟩ - K hK
      have h7 : SlAt w1 (F 7) (depsN ns) := h7
      have h9 : SlAt w1 (F 9) (depsN ns) := h9
      have h5 : (F 5) = .bool false := h5
      rw [h5] at t30
      clear h5
      refine stepY ((wanted_of 5 false 30 _ rfl rfl t30).trans rfl) ?_
      go_simp
      with_reducible refine (unhide (cS1 _ _ _ h7 h9)).mono ?_
      rintro e w2 ⟨rfl, hx⟩
      exact hK _ _ (jE.trans hx) (rfl) (by intro jq hj uq h; have hj : jq ∈ [5] := hj; simp only [List.mem_singleton] at hj; subst hj; exact h)
    · refine stepL_of ?_
      rintro F a w1 jE ⟨h10, t35, h5, t30, -⟩ - K hK
      have h10 : (F 10) = .bool true := h10
      rw [h10] at t35
      clear h10
      have h5 : (F 5) = .bool false := h5
      rw [h5] at t30
      clear h5
      refine stepY ((wanted_of 5 false 30 _ rfl rfl t30).trans rfl) ?_
      go_simp
      exact hK _ _ jE rfl (fun _ _ _ h => h)
    · refine stepL_plain rfl ?_
      rintro F a w1 jE ⟨h5, t30, h11, t36, -⟩ - K hK
      have h5 : (F 5) = .bool false := h5
      rw [h5] at t30
      clear h5
      have h11 : (F 11) = .bool false := h11
      rw [h11] at t36
      clear h11
      go_simp
      exact hK _ _ jE rfl (fun _ _ _ h => h)
    · refine stepL_plain rfl ?_
      rintro F a w1 jE ⟨h12, t37, -⟩ - K hK
      have h12 : (F 12) = .bool false := h12
      rw [h12] at t37
      clear h12
      go_simp
      exact hK _ _ jE rfl (fun _ _ _ h => h)
    · refine stepL_of ?_
      rintro F a w1 jE ⟨h13, t38, -⟩ ⟨t2, -⟩ K hK
      have h13 : (F 13) = .bool false := h13
      rw [h13] at t38
      clear h13
      have t2 : a.tmps[2]? = some (.pointer (some ⟨g, 0, none⟩)) := t2
      refine stepY ((wanted_of 13 false 38 _ rfl rfl t38).trans rfl) ?_
      have c := (jE.blk BT (by simp)).cell
      refine wp_load_blk 25 _ rfl g (eval_tmp t2) 25 t.cs _ (jE.blk BT (by simp)) Try.underlying25 rfl (info_tree _) ?_
      exact hK _ _ jE rfl (fun _ _ _ h => h)
    · refine stepL_of ?_
      rintro F a w1 jE ⟨h14, t39, h13, t38, -⟩ - K hK
      have h14 : (F 14) = (.agg t.cs) := h14
      rw [h14] at t39
      clear h14
      have h13 : (F 13) = .bool false := h13
      rw [h13] at t38
      clear h13
      refine stepY ((wanted_of 13 false 38 _ rfl rfl t38).trans rfl) ?_
      go_simp
      with_reducible refine (unhide (cL _ (hN.ext (E1.trans (jE.ext (Ext.refl _) (by simp)))))).mono ?_
      rintro e w2 ⟨⟨v', rfl, hv⟩, hx⟩
      exact hK _ _ (jE.trans hx) hv (by intro jq hj uq h; have hj : jq ∈ [13, 16] := hj; simp only [List.mem_cons, List.not_mem_nil, or_false] at hj; rcases hj with rfl | rfl; exact h; exact h)
    · refine stepL_of ?_
      rintro F a w1 jE ⟨h13, t38, -⟩ ⟨t2, -⟩ K hK
      have h13 : (F 13) = .bool false := h13
      rw [h13] at t38
      clear h13
      have t2 : a.tmps[2]? = some (.pointer (some ⟨g, 0, none⟩)) := t2
      refine stepY ((wanted_of 13 false 38 _ rfl rfl t38).trans rfl) ?_
      have c := (jE.blk BT (by simp)).cell
      refine wp_load_blk 25 _ rfl g (eval_tmp t2) 25 t.cs _ (jE.blk BT (by simp)) Try.underlying25 rfl (info_tree _) ?_
      exact hK _ _ jE rfl (fun _ _ _ h => h)
    · refine stepL_of ?_
      rintro F a w1 jE ⟨h16, t41, h13, t38, -⟩ - K hK
      have h16 : (F 16) = (.agg t.cs) := h16
      rw [h16] at t41
      clear h16
      have h13 : (F 13) = .bool false := h13
      rw [h13] at t38
      clear h13
      refine stepY ((wanted_of 13 false 38 _ rfl rfl t38).trans rfl) ?_
      go_simp
      with_reducible refine (unhide (cL2 _ (hN.ext (E1.trans (jE.ext (Ext.refl _) (by simp)))))).mono ?_
      rintro e w2 ⟨⟨v', rfl, hv⟩, hx⟩
      exact hK _ _ (jE.trans hx) hv (by intro jq hj uq h; have hj : jq ∈ [15, 13] := hj; simp only [List.mem_cons, List.not_mem_nil, or_false] at hj; rcases hj with rfl | rfl; exact (have h : SlAt w1 uq (lastsN ns) := h; h.ext hx); exact h)
    · refine stepL_of ?_
      rintro F a w1 jE ⟨h15, t40, h17, t42, h13, t38, -⟩ - K hK
      have h15 : SlAt w1 (F 15) (lastsN ns) := h15
      have h17 : SlAt w1 (F 17) (lastsN ns) := h17
      have h13 : (F 13) = .bool false := h13
      rw [h13] at t38
      clear h13
      refine stepY ((wanted_of 13 false 38 _ rfl rfl t38).trans rfl) ?_
      go_simp
      with_reducible refine (unhide (cS2 _ _ _ h15 h17)).mono ?_
      rintro e w2 ⟨rfl, hx⟩
      exact hK _ _ (jE.trans hx) (rfl) (by intro jq hj uq h; have hj : jq ∈ [13] := hj; simp only [List.mem_singleton] at hj; subst hj; exact h)
    · refine stepL_of ?_
      rintro F a w1 jE ⟨h18, t43, h13, t38, -⟩ - K hK
      have h18 : (F 18) = .bool true := h18
      rw [h18] at t43
      clear h18
      have h13 : (F 13) = .bool false := h13
      rw [h13] at t38
      clear h13
      refine stepY ((wanted_of 13 false 38 _ rfl rfl t38).trans rfl) ?_
      go_simp
      exact hK _ _ jE rfl (fun _ _ _ h => h)
    · refine stepL_plain rfl ?_
      rintro F a w1 jE ⟨h13, t38, h19, t44, -⟩ - K hK
      have h13 : (F 13) = .bool false := h13
      rw [h13] at t38
      clear h13
      have h19 : (F 19) = .bool false := h19
      rw [h19] at t44
      clear h19
      go_simp
      exact hK _ _ jE rfl (fun _ _ _ h => h)
  · rintro F w9 jE ⟨h20, -⟩
    have h20 : (F 20) = .bool false := h20
    have hx := jE.ext (Ext.refl _) (by simp)
    replace E1 := E1.trans hx
    replace BT := BT.ext hx
    replace RK := RK.ext hx
    replace RK2 := RK2.ext hx
    clear jE hx
    simp only [putL, Act.put, Nat.reduceAdd, Nat.zero_add, List.setIfInBounds_toArray, List.set_cons_succ, List.set_cons_zero]
    rw [h20]
    clear h20
    go_wp2_with fail
    go_loopw [7] (fun v wr => ∃ i : Nat, v = .int .i64 i ∧ i ≤ t.nl ∧ Ext w wr ∧ Blk wr g 25 t.cs ∧ RdR wr g Ak t.nl (kidsN ns t.nl) ∧ RdR wr g Ak2 t.nl (kidsN ns t.nl)) (fun v _ => t.nl - (intOf v).toNat)
    case atStart => exact ⟨0, rfl, by omega, E1, BT, RK, RK2⟩
    case round =>
      clear E1 BT RK RK2
      obtain ⟨i, rfl, i1, E1, BT, RK, RK2⟩ := hrel
      have c1 := BT.cell
      have l1 := BT.lt
      by_cases hi : i < t.nl
      · have hiI : (0 : Int) ≤ (i : Int) ∧ (i : Int) < (t.nl : Int) := by omega
        obtain ⟨b1, o1, A1, d1, hA1, -, lb1, k1, R1, -⟩ := RK.at_ i hi
        obtain ⟨b2, o2, A2, d2, hA2, -, lb2, k2, R2, -⟩ := RK2.at_ i hi
        subst hA1 hA2
        go_upto_region 10 with fail
        clear c1 l1
        refine wp_region_lin (by kernel_rfl) (fun w' => (ExtX wr w' [])) (fun ii vv ww => match ii with | 0 => vv = .slice (some ⟨b1, o1, none⟩) t.nl t.nl | 1 => vv = .int .i64 (i : Int) | 2 => vv = .pointer (some ⟨b1, o1 + i, none⟩) | 3 => vv = .slice A1 (kidsN ns t.nl i).length d1 | 4 => vv = .slice (some ⟨b2, o2, none⟩) t.nl t.nl | 5 => vv = .int .i64 (i : Int) | 6 => vv = .pointer (some ⟨b2, o2 + i, none⟩) | 7 => vv = .slice A2 (kidsN ns t.nl i).length d2 | 8 => vv = .bool true | 9 => vv = .bool false | _ => True) (fun ii => match ii with | 2 => [(0, 52), (1, 53)] | 3 => [(2, 54)] | 6 => [(4, 56), (5, 57)] | 7 => [(6, 58)] | 8 => [(3, 55), (7, 59)] | 9 => [(8, 60)] | _ => []) (fun ii => match ii with | 0 => [5] | 1 => [7] | 4 => [6] | 5 => [7] | _ => []) (fun ii => match ii with | 0 => [1, 4, 5, 6, 7] | 1 => [0, 4, 5, 6, 7] | 2 => [4, 5, 6, 7] | 3 => [4, 5, 6, 7] | 4 => [0, 1, 2, 5, 3] | 5 => [0, 1, 2, 4, 3] | 6 => [0, 1, 2, 3] | 7 => [0, 1, 2, 3] | _ => []) [9] [0, 0, 3, 7, 0, 0, 48, 112, 255, 511] 94 rfl (by kernel_rfl) (ExtX.start _ _) ?_ ?_
        · rename_i hcont; clear hcont
          refine ⟨?_, ?_, ?_, ?_, ?_, ?_, ?_, ?_, ?_, ?_, trivial⟩
          · refine stepL_plain rfl ?_
            rintro F a w1 jE - ⟨t5, -⟩ K hK
            have t5 : a.tmps[5]? = some (.slice (some ⟨b1, o1, none⟩) t.nl t.nl) := t5
            go_simp
            exact hK _ _ jE rfl (fun _ _ _ h => h)
          · refine stepL_plain rfl ?_
            rintro F a w1 jE - ⟨t7, -⟩ K hK
            have t7 : a.tmps[7]? = some (.int .i64 (i : Int)) := t7
            go_simp
            exact hK _ _ jE rfl (fun _ _ _ h => h)
          · refine stepL_plain rfl ?_
            rintro F a w1 jE ⟨h0, t52, h1, t53, -⟩ - K hK
            have h0 : (F 0) = .slice (some ⟨b1, o1, none⟩) t.nl t.nl := h0
            rw [h0] at t52
            clear h0
            have h1 : (F 1) = .int .i64 (i : Int) := h1
            rw [h1] at t53
            clear h1
            go_simp
            exact hK _ _ jE rfl (fun _ _ _ h => h)
          · refine stepL_plain rfl ?_
            rintro F a w1 jE ⟨h2, t54, -⟩ - K hK
            have h2 : (F 2) = .pointer (some ⟨b1, o1 + i, none⟩) := h2
            rw [h2] at t54
            clear h2
            have c := ((jE.ext (Ext.refl _) (by simp)).cells.1 b1 _ lb1).trans k1
            go_simp
            exact hK _ _ jE rfl (fun _ _ _ h => h)
          · refine stepL_plain rfl ?_
            rintro F a w1 jE - ⟨t6, -⟩ K hK
            have t6 : a.tmps[6]? = some (.slice (some ⟨b2, o2, none⟩) t.nl t.nl) := t6
            go_simp
            exact hK _ _ jE rfl (fun _ _ _ h => h)
          · refine stepL_plain rfl ?_
            rintro F a w1 jE - ⟨t7, -⟩ K hK
            have t7 : a.tmps[7]? = some (.int .i64 (i : Int)) := t7
            go_simp
            exact hK _ _ jE rfl (fun _ _ _ h => h)
          · refine stepL_plain rfl ?_
            rintro F a w1 jE ⟨h4, t56, h5, t57, -⟩ - K hK
            have h4 : (F 4) = .slice (some ⟨b2, o2, none⟩) t.nl t.nl := h4
            rw [h4] at t56
            clear h4
            have h5 : (F 5) = .int .i64 (i : Int) := h5
            rw [h5] at t57
            clear h5
            go_simp
            exact hK _ _ jE rfl (fun _ _ _ h => h)
          · refine stepL_plain rfl ?_
            rintro F a w1 jE ⟨h6, t58, -⟩ - K hK
            have h6 : (F 6) = .pointer (some ⟨b2, o2 + i, none⟩) := h6
            rw [h6] at t58
            clear h6
            have c := ((jE.ext (Ext.refl _) (by simp)).cells.1 b2 _ lb2).trans k2
            go_simp
            exact hK _ _ jE rfl (fun _ _ _ h => h)
          · refine stepL_plain rfl ?_
            rintro F a w1 jE ⟨h3, t55, h7, t59, -⟩ - K hK
            have h3 : (F 3) = .slice A1 (kidsN ns t.nl i).length d1 := h3
            rw [h3] at t55
            clear h3
            have h7 : (F 7) = .slice A2 (kidsN ns t.nl i).length d2 := h7
            rw [h7] at t59
            clear h7
            go_simp
            with_reducible refine (unhide (cS3 i _ _ _ (slAt_of (R1.ext (jE.ext (Ext.refl _) (by simp))) d1) (slAt_of (R2.ext (jE.ext (Ext.refl _) (by simp))) d2))).mono ?_
            rintro e w2 ⟨rfl, hx⟩
            exact hK _ _ (jE.trans hx) (rfl) (fun _ hj _ _ => (List.not_mem_nil hj).elim)
          · refine stepL_plain rfl ?_
            rintro F a w1 jE ⟨h8, t60, -⟩ - K hK
            have h8 : (F 8) = .bool true := h8
            rw [h8] at t60
            clear h8
            go_simp
            exact hK _ _ jE rfl (fun _ _ _ h => h)
        · rintro F w9 jE ⟨h9, -⟩
          have h9 : (F 9) = .bool false := h9
          have hx := jE.ext (Ext.refl _) (by simp)
          replace E1 := E1.trans hx
          replace BT := BT.ext hx
          replace RK := RK.ext hx
          replace RK2 := RK2.ext hx
          clear jE hx
          simp only [putL, Act.put, Nat.reduceAdd, Nat.zero_add, List.setIfInBounds_toArray, List.set_cons_succ, List.set_cons_zero]
          rw [h9]
          clear h9
          have c1 := BT.cell
          have l1 := BT.lt
          clear k1 k2 R1 R2
          go_wp2_with fail
          go_roundw
          case rel => exact ⟨i + 1, by go_num, by omega, E1, BT, RK, RK2⟩
          case measure => simp [intOf]; omega
      · have hiI : ¬ (i : Int) < (t.nl : Int) := by omega
        go_wp2_with fail
        refine (unhide (cC _ (hT.ext E1))).mono ?_
        rintro e w4 ⟨rfl, hx⟩
        replace E1 := E1.trans hx
        replace BT := BT.ext hx
        clear hx c1 l1 RK RK2
        generalize checkV ns av t.view = CV at *
        obtain ⟨C1, C2⟩ := CV
        have c1 := BT.cell
        have l1 := BT.lt
        by_cases hC : C2 = 0
        rotate_left
        · have hCb : (C2 != 0) = true := by simpa using hC
          go_wp2_with fail
          refine (works05_any _).mono ?_
          rintro e w2 ⟨rfl, hx⟩
          go_wp2_with fail
          go_ret
          exact ⟨rfl, E1.trans hx⟩
        have hCb : (C2 != 0) = false := by simpa using hC
        have HC := hide hC
        clear hC
        go_wp2_with fail
        clear c1 l1
        go_loopw [10] (fun v wr => ∃ x : Int, v = .int .i64 x ∧ -1 ≤ x ∧ x ≤ (t.nl : Int) + 1 ∧ Ext w wr ∧ Blk wr g 25 t.cs) (fun v _ => ((t.nl : Int) + 1 - intOf v).toNat)
        case atStart => exact ⟨-1, rfl, by omega, by omega, E1, BT⟩
        case round =>
          clear E1 BT
          obtain ⟨x, rfl, x1, x2, E1, BT⟩ := hrel
          have c1 := BT.cell
          have l1 := BT.lt
          by_cases hx : x ≤ (t.nl : Int)
          · obtain ⟨rr, hrr⟩ : ∃ rr, rootI ns x = rr := ⟨_, rfl⟩
            have cx := cR x
            have cx2 := cR2 x
            rw [hrr] at cx cx2
            have hnn : (rr != rr) = false := by simp
            clear hrr
            go_upto_region 18 with fail
            clear c1 l1
            refine wp_region_lin (by kernel_rfl) (fun w' => (ExtX wr w' [])) (fun ii vv ww => match ii with | 0 => vv = (.agg t.cs) | 1 => vv = .int .i64 x | 2 => vv = .bool rr | 3 => vv = (.agg t.cs) | 4 => vv = .int .i64 x | 5 => vv = .bool rr | 6 => vv = .bool false | _ => True) (fun ii => match ii with | 2 => [(0, 77), (1, 78)] | 5 => [(3, 80), (4, 81)] | 6 => [(2, 79), (5, 82)] | _ => []) (fun ii => match ii with | 0 => [2] | 1 => [10] | 3 => [2] | 4 => [10] | _ => []) (fun ii => match ii with | 0 => [1, 3, 4] | 1 => [0, 3, 4] | 2 => [3, 4] | 3 => [0, 1, 4, 2] | 4 => [0, 1, 3, 2] | 5 => [2] | _ => []) [6] [0, 0, 3, 0, 0, 31, 63] 94 rfl (by kernel_rfl) (ExtX.start _ _) ?_ ?_
            · rename_i hcont; clear hcont
              refine ⟨?_, ?_, ?_, ?_, ?_, ?_, ?_, trivial⟩
              · refine stepL_plain rfl ?_
                rintro F a w1 jE - ⟨t2, -⟩ K hK
                have t2 : a.tmps[2]? = some (.pointer (some ⟨g, 0, none⟩)) := t2
                have c := (jE.blk BT (by simp)).cell
                refine wp_load_blk 25 _ rfl g (eval_tmp t2) 25 t.cs _ (jE.blk BT (by simp)) Try.underlying25 rfl (info_tree _) ?_
                exact hK _ _ jE rfl (fun _ _ _ h => h)
              · refine stepL_plain rfl ?_
                rintro F a w1 jE - ⟨t10, -⟩ K hK
                have t10 : a.tmps[10]? = some (.int .i64 x) := t10
                go_simp
                exact hK _ _ jE rfl (fun _ _ _ h => h)
              · refine stepL_plain rfl ?_
                rintro F a w1 jE ⟨h0, t77, h1, t78, -⟩ - K hK
                have h0 : (F 0) = (.agg t.cs) := h0
                rw [h0] at t77
                clear h0
                have h1 : (F 1) = .int .i64 x := h1
                rw [h1] at t78
                clear h1
                go_simp
                with_reducible refine (unhide (cx _ (hN.ext (E1.trans (jE.ext (Ext.refl _) (by simp)))))).mono ?_
                rintro e w2 ⟨rfl, hx⟩
                exact hK _ _ (jE.trans hx) (rfl) (by intro jq hj uq h; have hj : jq ∈ [3, 4] := hj; simp only [List.mem_cons, List.not_mem_nil, or_false] at hj; rcases hj with rfl | rfl; exact h; exact h)
              · refine stepL_plain rfl ?_
                rintro F a w1 jE - ⟨t2, -⟩ K hK
                have t2 : a.tmps[2]? = some (.pointer (some ⟨g, 0, none⟩)) := t2
                have c := (jE.blk BT (by simp)).cell
                refine wp_load_blk 25 _ rfl g (eval_tmp t2) 25 t.cs _ (jE.blk BT (by simp)) Try.underlying25 rfl (info_tree _) ?_
                exact hK _ _ jE rfl (fun _ _ _ h => h)
              · refine stepL_plain rfl ?_
                rintro F a w1 jE - ⟨t10, -⟩ K hK
                have t10 : a.tmps[10]? = some (.int .i64 x) := t10
                go_simp
                exact hK _ _ jE rfl (fun _ _ _ h => h)
              · refine stepL_plain rfl ?_
                rintro F a w1 jE ⟨h3, t80, h4, t81, -⟩ - K hK
                have h3 : (F 3) = (.agg t.cs) := h3
                rw [h3] at t80
                clear h3
                have h4 : (F 4) = .int .i64 x := h4
                rw [h4] at t81
                clear h4
                go_simp
                with_reducible refine (unhide (cx2 _ (hN.ext (E1.trans (jE.ext (Ext.refl _) (by simp)))))).mono ?_
                rintro e w2 ⟨rfl, hx⟩
                exact hK _ _ (jE.trans hx) (rfl) (by intro jq hj uq h; have hj : jq ∈ [2] := hj; simp only [List.mem_singleton] at hj; subst hj; exact h)
              · refine stepL_plain rfl ?_
                rintro F a w1 jE ⟨h2, t79, h5, t82, -⟩ - K hK
                have h2 : (F 2) = .bool rr := h2
                rw [h2] at t79
                clear h2
                have h5 : (F 5) = .bool rr := h5
                rw [h5] at t82
                clear h5
                go_simp
                exact hK _ _ jE rfl (fun _ _ _ h => h)
            · rintro F w9 jE ⟨h6, -⟩
              have h6 : (F 6) = .bool false := h6
              have hx := jE.ext (Ext.refl _) (by simp)
              replace E1 := E1.trans hx
              replace BT := BT.ext hx
              clear jE hx
              simp only [putL, Act.put, Nat.reduceAdd, Nat.zero_add, List.setIfInBounds_toArray, List.set_cons_succ, List.set_cons_zero]
              rw [h6]
              clear h6
              have c1 := BT.cell
              have l1 := BT.lt
              go_wp2_with fail
              go_roundw
              case rel => exact ⟨x + 1, by go_num, by omega, by omega, E1, BT⟩
              case measure => simp [intOf]; omega
          · obtain ⟨rr, hrr⟩ : ∃ rr, rootI ns at_ = rr := ⟨_, rfl⟩
            have cx := cR at_
            have cx2 := cR2 at_
            rw [hrr] at cx cx2
            have hnn : (rr == rr) = true := by simp
            clear hrr
            go_upto_region 20 with fail
            clear c1 l1
            refine wp_region_lin (by kernel_rfl) (fun w' => (ExtX wr w' [])) (fun ii vv ww => match ii with | 0 => vv = (.agg t.cs) | 1 => vv = .int .i64 at_ | 2 => vv = .bool rr | 3 => vv = (.agg t.cs) | 4 => vv = .int .i64 at_ | 5 => vv = .bool rr | 6 => vv = .bool true | 7 => vv = .bool true | 8 => vv = .bool true | 9 => vv = .bool true | 10 => vv = .bool true | _ => True) (fun ii => match ii with | 2 => [(0, 84), (1, 85)] | 5 => [(3, 87), (4, 88)] | 6 => [(2, 86), (5, 89)] | 7 => [(6, 90)] | 8 => [(7, 91)] | 9 => [(7, 91), (8, 92)] | 10 => [(9, 93)] | _ => []) (fun ii => match ii with | 0 => [2] | 1 => [1] | 3 => [2] | 4 => [1] | _ => []) (fun ii => match ii with | 0 => [1, 3, 4] | 1 => [0, 3, 4] | 2 => [3, 4] | 3 => [0, 1, 4, 2] | 4 => [0, 1, 3, 2] | 5 => [2] | 8 => [7] | _ => []) [10] [0, 0, 3, 0, 0, 31, 63, 127, 255, 511, 1023] 94 rfl (by kernel_rfl) (ExtX.start _ _) ?_ ?_
            · rename_i hcont; clear hcont
              refine ⟨?_, ?_, ?_, ?_, ?_, ?_, ?_, ?_, ?_, ?_, ?_, trivial⟩
              · refine stepL_plain rfl ?_
                rintro F a w1 jE - ⟨t2, -⟩ K hK
                have t2 : a.tmps[2]? = some (.pointer (some ⟨g, 0, none⟩)) := t2
                have c := (jE.blk BT (by simp)).cell
                refine wp_load_blk 25 _ rfl g (eval_tmp t2) 25 t.cs _ (jE.blk BT (by simp)) Try.underlying25 rfl (info_tree _) ?_
                exact hK _ _ jE rfl (fun _ _ _ h => h)
              · refine stepL_plain rfl ?_
                rintro F a w1 jE - ⟨t1, -⟩ K hK
                have t1 : a.tmps[1]? = some (.int .i64 at_) := t1
                go_simp
                exact hK _ _ jE rfl (fun _ _ _ h => h)
              · refine stepL_plain rfl ?_
                rintro F a w1 jE ⟨h0, t84, h1, t85, -⟩ - K hK
                have h0 : (F 0) = (.agg t.cs) := h0
                rw [h0] at t84
                clear h0
                have h1 : (F 1) = .int .i64 at_ := h1
                rw [h1] at t85
                clear h1
                go_simp
                with_reducible refine (unhide (cx _ (hN.ext (E1.trans (jE.ext (Ext.refl _) (by simp)))))).mono ?_
                rintro e w2 ⟨rfl, hx⟩
                exact hK _ _ (jE.trans hx) (rfl) (by intro jq hj uq h; have hj : jq ∈ [3, 4] := hj; simp only [List.mem_cons, List.not_mem_nil, or_false] at hj; rcases hj with rfl | rfl; exact h; exact h)
              · refine stepL_plain rfl ?_
                rintro F a w1 jE - ⟨t2, -⟩ K hK
                have t2 : a.tmps[2]? = some (.pointer (some ⟨g, 0, none⟩)) := t2
                have c := (jE.blk BT (by simp)).cell
                refine wp_load_blk 25 _ rfl g (eval_tmp t2) 25 t.cs _ (jE.blk BT (by simp)) Try.underlying25 rfl (info_tree _) ?_
                exact hK _ _ jE rfl (fun _ _ _ h => h)
              · refine stepL_plain rfl ?_
                rintro F a w1 jE - ⟨t1, -⟩ K hK
                have t1 : a.tmps[1]? = some (.int .i64 at_) := t1
                go_simp
                exact hK _ _ jE rfl (fun _ _ _ h => h)
              · refine stepL_plain rfl ?_
                rintro F a w1 jE ⟨h3, t87, h4, t88, -⟩ - K hK
                have h3 : (F 3) = (.agg t.cs) := h3
                rw [h3] at t87
                clear h3
                have h4 : (F 4) = .int .i64 at_ := h4
                rw [h4] at t88
                clear h4
                go_simp
                with_reducible refine (unhide (cx2 _ (hN.ext (E1.trans (jE.ext (Ext.refl _) (by simp)))))).mono ?_
                rintro e w2 ⟨rfl, hx⟩
                exact hK _ _ (jE.trans hx) (rfl) (by intro jq hj uq h; have hj : jq ∈ [2] := hj; simp only [List.mem_singleton] at hj; subst hj; exact h)
              · refine stepL_plain rfl ?_
                rintro F a w1 jE ⟨h2, t86, h5, t89, -⟩ - K hK
                have h2 : (F 2) = .bool rr := h2
                rw [h2] at t86
                clear h2
                have h5 : (F 5) = .bool rr := h5
                rw [h5] at t89
                clear h5
                go_simp
                exact hK _ _ jE rfl (fun _ _ _ h => h)
              · refine stepL_plain rfl ?_
                rintro F a w1 jE ⟨h6, t90, -⟩ - K hK
                have h6 : (F 6) = .bool true := h6
                rw [h6] at t90
                clear h6
                go_simp
                exact hK _ _ jE rfl (fun _ _ _ h => h)
              · refine stepL_of ?_
                rintro F a w1 jE ⟨h7, t91, -⟩ - K hK
                have h7 : (F 7) = .bool true := h7
                rw [h7] at t91
                clear h7
                refine stepY ((wanted_of 7 true 91 _ rfl rfl t91).trans rfl) ?_
                go_simp
                with_reducible refine (unhide (cW _)).mono ?_
                rintro e w2 ⟨rfl, hx⟩
                exact hK _ _ (jE.trans hx) (rfl) (by intro jq hj uq h; have hj : jq ∈ [7] := hj; simp only [List.mem_singleton] at hj; subst hj; exact h)
              · refine stepL_plain rfl ?_
                rintro F a w1 jE ⟨h7, t91, h8, t92, -⟩ - K hK
                have h7 : (F 7) = .bool true := h7
                rw [h7] at t91
                clear h7
                have h8 : (F 8) = .bool true := h8
                rw [h8] at t92
                clear h8
                go_simp
                exact hK _ _ jE rfl (fun _ _ _ h => h)
              · refine stepL_plain rfl ?_
                rintro F a w1 jE ⟨h9, t93, -⟩ - K hK
                have h9 : (F 9) = .bool true := h9
                rw [h9] at t93
                clear h9
                go_simp
                exact hK _ _ jE rfl (fun _ _ _ h => h)
            · rintro F w9 jE ⟨h10, -⟩
              have h10 : (F 10) = .bool true := h10
              have hx := jE.ext (Ext.refl _) (by simp)
              replace E1 := E1.trans hx
              replace BT := BT.ext hx
              clear jE hx
              simp only [putL, Act.put, Nat.reduceAdd, Nat.zero_add, List.setIfInBounds_toArray, List.set_cons_succ, List.set_cons_zero]
              rw [h10]
              clear h10
              go_wp2_with fail
              go_ret
              exact ⟨rfl, E1⟩
end
end Go.Proofs.Ytnolbmfjgfojhaa
