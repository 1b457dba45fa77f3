/- Styles: the law on lengths that become auto, or of an unknown kind (walk). -/
import Derived.Test.YtahneblnbafpoaaStRi
import Derived.Test.YtahneblnbafpoaaStP
import Derived.IntWalk
namespace Go.Proofs.Ytahneblnbafpoaa
open Go.RowKit
theorem autos_vast (s : Sty) (q n : Int) (h : 131072 < s.ul) (w : World) :
    Calls Try.prog 6 #[.agg s.cells, .int .u8 q, .int .i64 n] w fun e w' => e = .returned (.bool true) ∧ Ext w w' := by
  have cV := fun w => hide (vast_t s h w)
  go_enter Try.func6, Try.ntmps6
  go_upto_region 1 with fail
  have B1 : Blk (w.alloc (.cells s.cells 28)) w.heap.size 28 s.cells := Blk.new _ _ _
  have E1 : Ext w (w.alloc (.cells s.cells 28)) := (Ext.refl _).alloc _
  generalize w.alloc (.cells s.cells 28) = w1 at *
  generalize hg : w.heap.size = g at *
  have hg0 : w.heap.size ≤ g := by omega
  clear hg
  go_step
  refine wpList_load_blk rfl 28 _ rfl g rfl 28 s.cells _ B1 Try.underlying28 rfl (info_style _) ?_
  simp only [Act.put, List.setIfInBounds_toArray, List.set_cons_succ, List.set_cons_zero]
  go_wp2_with fail
  refine (unhide (cV _)).mono ?_
  rintro e w2 ⟨rfl, hx⟩
  replace B1 := B1.ext hx
  replace E1 := E1.trans hx
  clear hx
  go_wp2_with fail
  refine (works_any _).mono ?_
  rintro e w99 ⟨rfl, hx⟩
  go_wp2_with fail
  go_ret
  exact ⟨rfl, E1.trans hx⟩
set_option maxRecDepth 100000 in
set_option maxHeartbeats 16000000 in
theorem autos_few (s : Sty) (q : Nat) (n : Int) (hq : q ≤ 255) (h : s.ul ≤ 131072) (w : World) :
    Calls Try.prog 6 #[.agg s.cells, .int .u8 q, .int .i64 n] w fun e w' => e = .returned (.bool true) ∧ Ext w w' := by
  obtain ⟨k, hkq⟩ : ∃ k, q % 11 = k := ⟨_, rfl⟩
  have hk : k < 11 := by omega
  obtain ⟨s1, hs1⟩ : ∃ x, setL s k ⟨0, 0⟩ = x := ⟨_, rfl⟩
  obtain ⟨s2, hs2⟩ : ∃ x, setL s1 k ⟨3 + (q : Int) / 11, 0⟩ = x := ⟨_, rfl⟩
  obtain ⟨s3, hs3⟩ : ∃ x, setL s2 k ⟨1, n⟩ = x := ⟨_, rfl⟩
  have cV := fun w => hide (vast_f s h w)
  have cR := fun w => hide (pright_any s w)
  have c1 := fun w => hide (pright_any s1 w)
  have c2 := fun w => hide (pright_any s2 w)
  have c3 := fun w => hide (pright_any s3 w)
  rw [right_eq] at cR c1 c2 c3
  rw [← hs2, right_kind hk (by omega)] at c2
  have h1 := hide (fun hr : rightV s = true => right_auto (s := s) hk hr)
  rw [hs1] at h1
  have h3 := hide (fun hr => right_px (s := s2) hk (n := n) hr)
  rw [hs3] at h3
  rw [hs2] at c2
  generalize rightV s = r0 at *
  generalize rightV s1 = r1 at *
  generalize rightV s3 = r3 at *
  have hw1 : IntKind.i64.wrap (q : Int) = (q : Int) := IntWalk.i64_in _ (by omega)
  have hw2 : Int.tmod (q : Int) 11 = (k : Int) := by rw [Int.tmod_eq_emod_of_nonneg (by omega)]; omega
  have hw3 : IntKind.i64.wrap (k : Int) = (k : Int) := IntWalk.i64_in _ (by omega)
  have hq1 : Int.tdiv (q : Int) 11 = (q : Int) / 11 := Int.tdiv_eq_ediv_of_nonneg (by omega)
  have hq2 : IntKind.u8.wrap ((q : Int) / 11) = (q : Int) / 11 := IntWalk.u8_in _ (by omega)
  have hq3 : IntKind.u8.wrap (3 + (q : Int) / 11) = 3 + (q : Int) / 11 := IntWalk.u8_in _ (by omega)
  have hin : (0 : Int) ≤ (k : Int) ∧ (k : Int) < 11 := by omega
  go_enter Try.func6, Try.ntmps6
  go_upto_region 1 with fail
  have B1 : Blk (w.alloc (.cells s.cells 28)) w.heap.size 28 s.cells := Blk.new _ _ _
  have E1 : Ext w (w.alloc (.cells s.cells 28)) := (Ext.refl _).alloc _
  generalize w.alloc (.cells s.cells 28) = w1 at *
  generalize hg : w.heap.size = g at *
  have hg0 : w.heap.size ≤ g := by omega
  clear hg
  go_step
  refine wpList_load_blk rfl 28 _ rfl g rfl 28 s.cells _ B1 Try.underlying28 rfl (info_style _) ?_
  simp only [Act.put, List.setIfInBounds_toArray, List.set_cons_succ, List.set_cons_zero]
  go_wp2_with fail
  refine (unhide (cV _)).mono ?_
  rintro e w2 ⟨rfl, hx⟩
  replace B1 := B1.ext hx
  replace E1 := E1.trans hx
  clear hx
  go_upto_region 3 with fail
  go_step
  refine wpList_load_blk rfl 28 _ rfl g rfl 28 s.cells _ B1 Try.underlying28 rfl (info_style _) ?_
  simp only [Act.put, List.setIfInBounds_toArray, List.set_cons_succ, List.set_cons_zero]
  go_wp2_with fail
  refine (unhide (cR _)).mono ?_
  rintro e w3 ⟨rfl, hx⟩
  replace B1 := B1.ext hx
  replace E1 := E1.trans hx
  clear hx
  go_upto_region 5 with fail
  go_wp2_with fail
  refine (lens_any g _).mono ?_
  rintro e wl ⟨gq, rfl, BL, hge, hx⟩
  replace B1 := B1.ext hx
  replace E1 := E1.trans hx
  clear hx hge
  have dl := (BL.cell k).trans (lensC_at g hk)
  have ll := BL.lt
  go_upto_region 6 with (first
    | (refine wpList_store_mid rfl 23 _ _ rfl g (lensO k) #[.int .u8 0, .int .i64 0] rfl rfl (setL_there B1 hk) (by kernel_rfl) (by kernel_rfl) ?_
       simp only [Act.put, List.setIfInBounds_toArray, List.set_cons_succ, List.set_cons_zero]))
  replace E1 := setL_ext E1 hg0 (lensO k) (.int .u8 ((⟨0, 0⟩ : Ln)).k) (.int .i64 ((⟨0, 0⟩ : Ln)).n)
  replace B1 := setL_blk B1 hk ((⟨0, 0⟩ : Ln))
  generalize World.setCells _ _ _ _ = ws at *
  clear dl ll BL
  rw [hs1] at B1
  obtain ⟨p27, hp27⟩ : ∃ x, (!r1) = x := ⟨_, rfl⟩
  obtain ⟨p28, hp28⟩ : ∃ x, (r0 && p27) = x := ⟨_, rfl⟩
  have HF6 : Hid (p28 = (r0 && (!r1))) := hide (by rw [← hp28, ← hp27])
  have Hp27 := hide hp27
  have Hp28 := hide hp28
  clear hp27 hp28
  refine wp_region_lin0 (fun w' => (ExtX ws w' [])) (fun ii vv ww => match ii with | 0 => vv = .bool r0 | 1 => vv = .bool r0 | 2 => vv = (if (r0) = true then (.agg s1.cells) else undef) | 3 => vv = (if (r0) = true then .bool r1 else undef) | 4 => vv = (if (r0) = true then .bool p27 else undef) | 5 => vv = .bool p28 | _ => True) (fun ii => match ii with | 1 => [(0, 23)] | 2 => [(1, 24)] | 3 => [(2, 25), (1, 24)] | 4 => [(3, 26), (1, 24)] | 5 => [(1, 24), (4, 27)] | _ => []) (fun ii => match ii with | 0 => [7] | 2 => [3] | _ => []) (fun ii => match ii with | 2 => [1] | 3 => [1] | 4 => [1] | _ => []) [5] [0, 1, 3, 7, 15, 31] 69 rfl (by kernel_rfl) (ExtX.refl _ _) ?_ ?_
  · rename_i hcont; clear hcont
    refine ⟨?_, ?_, ?_, ?_, ?_, ?_, trivial⟩
    · refine stepL_plain rfl ?_
      rintro F a w1 jE - ⟨t7, -⟩ K hK
      have t7 : a.tmps[7]? = some (.bool r0) := t7
      go_simp
      exact hK _ _ jE rfl (fun _ _ _ h => h)
    · refine stepL_plain rfl ?_
      rintro F a w1 jE ⟨h0, t23, -⟩ - K hK
      have h0 : (F 0) = .bool r0 := h0
      rw [h0] at t23
      clear h0
      go_simp
      exact hK _ _ jE rfl (fun _ _ _ h => h)
    · refine stepL_of ?_
      rintro F a w1 jE ⟨h1, t24, -⟩ ⟨t3, -⟩ K hK
      have h1 : (F 1) = .bool r0 := h1
      rw [h1] at t24
      clear h1
      have t3 : a.tmps[3]? = some (.pointer (some ⟨g, 0, none⟩)) := t3
      cases r0
      all_goals first
        | (exact stepN ((wanted_of 1 true 24 _ rfl rfl t24).trans rfl) (hK undef _ jE rfl (fun _ _ _ h => h)))
        | (exact stepN (wanted_undef 1 true 24 rfl rfl t24) (hK undef _ jE rfl (fun _ _ _ h => h)))
        | (refine stepY ((wanted_of 1 true 24 _ rfl rfl t24).trans rfl) ?_
           have c := (jE.blk B1 (by simp)).cell
           refine wp_load_blk 28 _ rfl g (eval_tmp t3) 28 s1.cells _ (jE.blk B1 (by simp)) Try.underlying28 rfl (info_style _) ?_
           exact hK _ _ jE rfl (fun _ _ _ h => h))
    · refine stepL_of ?_
      rintro F a w1 jE ⟨h2, t25, h1, t24, -⟩ - K hK
      have h2 : (F 2) = (if (r0) = true then (.agg s1.cells) else undef) := h2
      rw [h2] at t25
      clear h2
      have h1 : (F 1) = .bool r0 := h1
      rw [h1] at t24
      clear h1
      cases r0
      all_goals first
        | (exact stepN ((wanted_of 1 true 24 _ rfl rfl t24).trans rfl) (hK undef _ jE rfl (fun _ _ _ h => h)))
        | (exact stepN (wanted_undef 1 true 24 rfl rfl t24) (hK undef _ jE rfl (fun _ _ _ h => h)))
        | (refine stepY ((wanted_of 1 true 24 _ rfl rfl t24).trans rfl) ?_
           go_simp
           with_reducible refine (unhide (c1 _)).mono ?_
           rintro e w2 ⟨rfl, hx⟩
           exact hK _ _ (jE.trans hx) (rfl) (by intro jq hj uq h; have hj : jq ∈ [1] := hj; simp only [List.mem_singleton] at hj; subst hj; exact h))
    · refine stepL_of ?_
      rintro F a w1 jE ⟨h3, t26, h1, t24, -⟩ - K hK
      have h3 : (F 3) = (if (r0) = true then .bool r1 else undef) := h3
      rw [h3] at t26
      clear h3
      have h1 : (F 1) = .bool r0 := h1
      rw [h1] at t24
      clear h1
      cases r0
      all_goals first
        | (exact stepN ((wanted_of 1 true 24 _ rfl rfl t24).trans rfl) (hK undef _ jE rfl (fun _ _ _ h => h)))
        | (exact stepN (wanted_undef 1 true 24 rfl rfl t24) (hK undef _ jE rfl (fun _ _ _ h => h)))
        | (refine stepY ((wanted_of 1 true 24 _ rfl rfl t24).trans rfl) ?_
           have e1 := unhide Hp27
           go_simp
           exact hK _ _ jE rfl (fun _ _ _ h => h))
    · refine stepL_plain rfl ?_
      rintro F a w1 jE ⟨h1, t24, h4, t27, -⟩ - K hK
      have h1 : (F 1) = .bool r0 := h1
      rw [h1] at t24
      clear h1
      have h4 : (F 4) = (if (r0) = true then .bool p27 else undef) := h4
      rw [h4] at t27
      clear h4
      cases p27 <;> cases r0
      all_goals
        obtain rfl := unhide Hp28
        go_simp
        exact hK _ _ jE rfl (fun _ _ _ h => h)
  · rintro F wu jE ⟨h5, -⟩
    have h5 : (F 5) = .bool p28 := h5
    have hx := jE.ext (Ext.refl _) (by simp)
    replace B1 := B1.ext hx
    replace E1 := E1.trans hx
    clear jE hx
    simp only [putL, Act.put, Nat.reduceAdd, Nat.zero_add, List.setIfInBounds_toArray, List.set_cons_succ, List.set_cons_zero]
    rw [h5]
    clear h5
    have hp : p28 = false := by
      rw [unhide HF6]
      cases r0
      · rfl
      · have := unhide h1 rfl
        simp [this]
    subst hp
    clear h1
    go_upto_region 8 with fail
    go_wp2_with fail
    refine (lens_any g _).mono ?_
    rintro e wl ⟨gq, rfl, BL, hge, hx⟩
    replace B1 := B1.ext hx
    replace E1 := E1.trans hx
    clear hx hge
    have dl := (BL.cell k).trans (lensC_at g hk)
    have ll := BL.lt
    go_upto_region 9 with (first
      | (refine wpList_store_mid rfl 23 _ _ rfl g (lensO k) #[.int .u8 (3 + (q : Int) / 11), .int .i64 0] rfl rfl (setL_there B1 hk) (by kernel_rfl) (by kernel_rfl) ?_
         simp only [Act.put, List.setIfInBounds_toArray, List.set_cons_succ, List.set_cons_zero]))
    replace E1 := setL_ext E1 hg0 (lensO k) (.int .u8 ((⟨3 + (q : Int) / 11, 0⟩ : Ln)).k) (.int .i64 ((⟨3 + (q : Int) / 11, 0⟩ : Ln)).n)
    replace B1 := setL_blk B1 hk ((⟨3 + (q : Int) / 11, 0⟩ : Ln))
    generalize World.setCells _ _ _ _ = ws at *
    clear dl ll BL
    rw [hs2] at B1
    go_step
    refine wpList_load_blk rfl 28 _ rfl g rfl 28 s2.cells _ B1 Try.underlying28 rfl (info_style _) ?_
    simp only [Act.put, List.setIfInBounds_toArray, List.set_cons_succ, List.set_cons_zero]
    go_wp2_with fail
    refine (unhide (c2 _)).mono ?_
    rintro e w5 ⟨rfl, hx⟩
    replace B1 := B1.ext hx
    replace E1 := E1.trans hx
    clear hx
    go_upto_region 11 with fail
    go_wp2_with fail
    refine (lens_any g _).mono ?_
    rintro e wl ⟨gq, rfl, BL, hge, hx⟩
    replace B1 := B1.ext hx
    replace E1 := E1.trans hx
    clear hx hge
    have dl := (BL.cell k).trans (lensC_at g hk)
    have ll := BL.lt
    go_upto_region 12 with (first
      | (refine wpList_store_mid rfl 23 _ _ rfl g (lensO k) #[.int .u8 1, .int .i64 n] rfl rfl (setL_there B1 hk) (by kernel_rfl) (by kernel_rfl) ?_
         simp only [Act.put, List.setIfInBounds_toArray, List.set_cons_succ, List.set_cons_zero]))
    replace E1 := setL_ext E1 hg0 (lensO k) (.int .u8 ((⟨1, n⟩ : Ln)).k) (.int .i64 ((⟨1, n⟩ : Ln)).n)
    replace B1 := setL_blk B1 hk ((⟨1, n⟩ : Ln))
    generalize World.setCells _ _ _ _ = ws at *
    clear dl ll BL
    rw [hs3] at B1
    obtain ⟨p49, hp49⟩ : ∃ x, (!r3) = x := ⟨_, rfl⟩
    obtain ⟨p52, hp52⟩ : ∃ x, decide ((-1099511627776) ≤ n) = x := ⟨_, rfl⟩
    obtain ⟨p55, hp55⟩ : ∃ x, decide (n ≤ 1099511627776) = x := ⟨_, rfl⟩
    obtain ⟨p56, hp56⟩ : ∃ x, (p52 && p55) = x := ⟨_, rfl⟩
    obtain ⟨p59, hp59⟩ : ∃ x, decide (0 ≤ n) = x := ⟨_, rfl⟩
    obtain ⟨p62, hp62⟩ : ∃ x, decide (6 < (k : Int)) = x := ⟨_, rfl⟩
    obtain ⟨p63, hp63⟩ : ∃ x, (p59 || p62) = x := ⟨_, rfl⟩
    obtain ⟨p64, hp64⟩ : ∃ x, (p56 && p63) = x := ⟨_, rfl⟩
    obtain ⟨p65, hp65⟩ : ∃ x, (p49 || p64) = x := ⟨_, rfl⟩
    obtain ⟨p68, hp68⟩ : ∃ x, (p65 || false) = x := ⟨_, rfl⟩
    have HF12 : Hid (p68 = (((!r3) || ((decide ((-1099511627776) ≤ n) && decide (n ≤ 1099511627776)) && (decide (0 ≤ n) || decide (6 < (k : Int))))) || false)) := hide (by rw [← hp68, ← hp65, ← hp64, ← hp63, ← hp62, ← hp59, ← hp56, ← hp55, ← hp52, ← hp49])
    have Hp49 := hide hp49
    have Hp52 := hide hp52
    have Hp55 := hide hp55
    have Hp56 := hide hp56
    have Hp59 := hide hp59
    have Hp62 := hide hp62
    have Hp63 := hide hp63
    have Hp64 := hide hp64
    have Hp65 := hide hp65
    have Hp68 := hide hp68
    clear hp49 hp52 hp55 hp56 hp59 hp62 hp63 hp64 hp65 hp68
    refine wp_region_lin0 (fun w' => (ExtX ws w' [])) (fun ii vv ww => match ii with | 0 => vv = (.agg s3.cells) | 1 => vv = .bool r3 | 2 => vv = .bool p49 | 3 => vv = .bool p49 | 4 => vv = (if (!p49) = true then .int .i64 n else undef) | 5 => vv = (if (!p49) = true then .bool p52 else undef) | 6 => vv = (if (!p49) = true then .bool p52 else undef) | 7 => vv = (if ((!p49) && p52) = true then .int .i64 n else undef) | 8 => vv = (if ((!p49) && p52) = true then .bool p55 else undef) | 9 => vv = (if (!p49) = true then .bool p56 else undef) | 10 => vv = (if (!p49) = true then .bool p56 else undef) | 11 => vv = (if ((!p49) && p56) = true then .int .i64 n else undef) | 12 => vv = (if ((!p49) && p56) = true then .bool p59 else undef) | 13 => vv = (if ((!p49) && p56) = true then .bool p59 else undef) | 14 => vv = (if (((!p49) && p56) && !p59) = true then .int .i64 (k : Int) else undef) | 15 => vv = (if (((!p49) && p56) && !p59) = true then .bool p62 else undef) | 16 => vv = (if ((!p49) && p56) = true then .bool p63 else undef) | 17 => vv = (if (!p49) = true then .bool p64 else undef) | 18 => vv = .bool p65 | 19 => vv = .bool p65 | 20 => vv = (if (p65) = true then .bool true else undef) | 21 => vv = .bool p68 | 22 => vv = .bool p68 | _ => True) (fun ii => match ii with | 1 => [(0, 47)] | 2 => [(1, 48)] | 3 => [(2, 49)] | 4 => [(3, 50)] | 5 => [(4, 51), (3, 50)] | 6 => [(5, 52), (3, 50)] | 7 => [(6, 53)] | 8 => [(7, 54), (6, 53)] | 9 => [(6, 53), (8, 55), (3, 50)] | 10 => [(9, 56), (3, 50)] | 11 => [(10, 57)] | 12 => [(11, 58), (10, 57)] | 13 => [(12, 59), (10, 57)] | 14 => [(13, 60)] | 15 => [(14, 61), (13, 60)] | 16 => [(13, 60), (15, 62), (10, 57)] | 17 => [(10, 57), (16, 63), (3, 50)] | 18 => [(3, 50), (17, 64)] | 19 => [(18, 65)] | 20 => [(19, 66)] | 21 => [(19, 66), (20, 67)] | 22 => [(21, 68)] | _ => []) (fun ii => match ii with | 0 => [3] | 4 => [2] | 7 => [2] | 11 => [2] | 14 => [8] | _ => []) (fun ii => match ii with | 4 => [3] | 5 => [3] | 6 => [3] | 7 => [6, 3] | 8 => [6, 3] | 9 => [3] | 10 => [3] | 11 => [10, 3] | 12 => [10, 3] | 13 => [10, 3] | 14 => [13, 10, 3] | 15 => [13, 10, 3] | 16 => [10, 3] | 17 => [3] | 20 => [19] | _ => []) [22] [0, 1, 3, 7, 15, 31, 63, 127, 255, 511, 1023, 2047, 4095, 8191, 16383, 32767, 65535, 131071, 262143, 524287, 1048575, 2097151, 4194303] 69 rfl (by kernel_rfl) (ExtX.refl _ _) ?_ ?_
    · rename_i hcont; clear hcont
      refine ⟨?_, ?_, ?_, ?_, ?_, ?_, ?_, ?_, ?_, ?_, ?_, ?_, ?_, ?_, ?_, ?_, ?_, ?_, ?_, ?_, ?_, ?_, ?_, trivial⟩
      · refine stepL_plain rfl ?_
        rintro F a w1 jE - ⟨t3, -⟩ K hK
        have t3 : a.tmps[3]? = some (.pointer (some ⟨g, 0, none⟩)) := t3
        have c := (jE.blk B1 (by simp)).cell
        refine wp_load_blk 28 _ rfl g (eval_tmp t3) 28 s3.cells _ (jE.blk B1 (by simp)) Try.underlying28 rfl (info_style _) ?_
        exact hK _ _ jE rfl (fun _ _ _ h => h)
      · refine stepL_plain rfl ?_
        rintro F a w1 jE ⟨h0, t47, -⟩ - K hK
        have h0 : (F 0) = (.agg s3.cells) := h0
        rw [h0] at t47
        clear h0
        go_simp
        with_reducible refine (unhide (c3 _)).mono ?_
        rintro e w2 ⟨rfl, hx⟩
        exact hK _ _ (jE.trans hx) (rfl) (fun _ hj _ _ => (List.not_mem_nil hj).elim)
      · refine stepL_plain rfl ?_
        rintro F a w1 jE ⟨h1, t48, -⟩ - K hK
        have h1 : (F 1) = .bool r3 := h1
        rw [h1] at t48
        clear h1
        have e1 := unhide Hp49
        go_simp
        exact hK _ _ jE rfl (fun _ _ _ h => h)
      · refine stepL_plain rfl ?_
        rintro F a w1 jE ⟨h2, t49, -⟩ - K hK
        have h2 : (F 2) = .bool p49 := h2
        rw [h2] at t49
        clear h2
        go_simp
        exact hK _ _ jE rfl (fun _ _ _ h => h)
      · refine stepL_of ?_
        rintro F a w1 jE ⟨h3, t50, -⟩ ⟨t2, -⟩ K hK
        have h3 : (F 3) = .bool p49 := h3
        rw [h3] at t50
        clear h3
        have t2 : a.tmps[2]? = some (.int .i64 n) := t2
        cases p49
        all_goals first
          | (exact stepN ((wanted_of 3 false 50 _ rfl rfl t50).trans rfl) (hK undef _ jE rfl (fun _ _ _ h => h)))
          | (exact stepN (wanted_undef 3 false 50 rfl rfl t50) (hK undef _ jE rfl (fun _ _ _ h => h)))
          | (refine stepY ((wanted_of 3 false 50 _ rfl rfl t50).trans rfl) ?_
             go_simp
             exact hK _ _ jE rfl (fun _ _ _ h => h))
      · refine stepL_of ?_
        rintro F a w1 jE ⟨h4, t51, h3, t50, -⟩ - K hK
        have h4 : (F 4) = (if (!p49) = true then .int .i64 n else undef) := h4
        rw [h4] at t51
        clear h4
        have h3 : (F 3) = .bool p49 := h3
        rw [h3] at t50
        clear h3
        cases p49
        all_goals first
          | (exact stepN ((wanted_of 3 false 50 _ rfl rfl t50).trans rfl) (hK undef _ jE rfl (fun _ _ _ h => h)))
          | (exact stepN (wanted_undef 3 false 50 rfl rfl t50) (hK undef _ jE rfl (fun _ _ _ h => h)))
          | (refine stepY ((wanted_of 3 false 50 _ rfl rfl t50).trans rfl) ?_
             have e1 := unhide Hp52
             go_simp
             exact hK _ _ jE rfl (fun _ _ _ h => h))
      · refine stepL_of ?_
        rintro F a w1 jE ⟨h5, t52, h3, t50, -⟩ - K hK
        have h5 : (F 5) = (if (!p49) = true then .bool p52 else undef) := h5
        rw [h5] at t52
        clear h5
        have h3 : (F 3) = .bool p49 := h3
        rw [h3] at t50
        clear h3
        cases p49
        all_goals first
          | (exact stepN ((wanted_of 3 false 50 _ rfl rfl t50).trans rfl) (hK undef _ jE rfl (fun _ _ _ h => h)))
          | (exact stepN (wanted_undef 3 false 50 rfl rfl t50) (hK undef _ jE rfl (fun _ _ _ h => h)))
          | (refine stepY ((wanted_of 3 false 50 _ rfl rfl t50).trans rfl) ?_
             go_simp
             exact hK _ _ jE rfl (fun _ _ _ h => h))
      · refine stepL_of ?_
        rintro F a w1 jE ⟨h6, t53, -⟩ ⟨t2, -⟩ K hK
        have h6 : (F 6) = (if (!p49) = true then .bool p52 else undef) := h6
        rw [h6] at t53
        clear h6
        have t2 : a.tmps[2]? = some (.int .i64 n) := t2
        cases p49 <;> cases p52
        all_goals first
          | (exact stepN ((wanted_of 6 true 53 _ rfl rfl t53).trans rfl) (hK undef _ jE rfl (fun _ _ _ h => h)))
          | (exact stepN (wanted_undef 6 true 53 rfl rfl t53) (hK undef _ jE rfl (fun _ _ _ h => h)))
          | (refine stepY ((wanted_of 6 true 53 _ rfl rfl t53).trans rfl) ?_
             go_simp
             exact hK _ _ jE rfl (fun _ _ _ h => h))
      · refine stepL_of ?_
        rintro F a w1 jE ⟨h7, t54, h6, t53, -⟩ - K hK
        have h7 : (F 7) = (if ((!p49) && p52) = true then .int .i64 n else undef) := h7
        rw [h7] at t54
        clear h7
        have h6 : (F 6) = (if (!p49) = true then .bool p52 else undef) := h6
        rw [h6] at t53
        clear h6
        cases p49 <;> cases p52
        all_goals first
          | (exact stepN ((wanted_of 6 true 53 _ rfl rfl t53).trans rfl) (hK undef _ jE rfl (fun _ _ _ h => h)))
          | (exact stepN (wanted_undef 6 true 53 rfl rfl t53) (hK undef _ jE rfl (fun _ _ _ h => h)))
          | (refine stepY ((wanted_of 6 true 53 _ rfl rfl t53).trans rfl) ?_
             have e1 := unhide Hp55
             go_simp
             exact hK _ _ jE rfl (fun _ _ _ h => h))
      · refine stepL_of ?_
        rintro F a w1 jE ⟨h6, t53, h8, t55, h3, t50, -⟩ - K hK
        have h6 : (F 6) = (if (!p49) = true then .bool p52 else undef) := h6
        rw [h6] at t53
        clear h6
        have h8 : (F 8) = (if ((!p49) && p52) = true then .bool p55 else undef) := h8
        rw [h8] at t55
        clear h8
        have h3 : (F 3) = .bool p49 := h3
        rw [h3] at t50
        clear h3
        cases p49 <;> cases p52 <;> cases p55
        all_goals first
          | (exact stepN ((wanted_of 3 false 50 _ rfl rfl t50).trans rfl) (hK undef _ jE rfl (fun _ _ _ h => h)))
          | (exact stepN (wanted_undef 3 false 50 rfl rfl t50) (hK undef _ jE rfl (fun _ _ _ h => h)))
          | (refine stepY ((wanted_of 3 false 50 _ rfl rfl t50).trans rfl) ?_
             obtain rfl := unhide Hp56
             go_simp
             exact hK _ _ jE rfl (fun _ _ _ h => h))
      · refine stepL_of ?_
        rintro F a w1 jE ⟨h9, t56, h3, t50, -⟩ - K hK
        have h9 : (F 9) = (if (!p49) = true then .bool p56 else undef) := h9
        rw [h9] at t56
        clear h9
        have h3 : (F 3) = .bool p49 := h3
        rw [h3] at t50
        clear h3
        cases p49
        all_goals first
          | (exact stepN ((wanted_of 3 false 50 _ rfl rfl t50).trans rfl) (hK undef _ jE rfl (fun _ _ _ h => h)))
          | (exact stepN (wanted_undef 3 false 50 rfl rfl t50) (hK undef _ jE rfl (fun _ _ _ h => h)))
          | (refine stepY ((wanted_of 3 false 50 _ rfl rfl t50).trans rfl) ?_
             go_simp
             exact hK _ _ jE rfl (fun _ _ _ h => h))
      · refine stepL_of ?_
        rintro F a w1 jE ⟨h10, t57, -⟩ ⟨t2, -⟩ K hK
        have h10 : (F 10) = (if (!p49) = true then .bool p56 else undef) := h10
        rw [h10] at t57
        clear h10
        have t2 : a.tmps[2]? = some (.int .i64 n) := t2
        cases p49 <;> cases p56
        all_goals first
          | (exact stepN ((wanted_of 10 true 57 _ rfl rfl t57).trans rfl) (hK undef _ jE rfl (fun _ _ _ h => h)))
          | (exact stepN (wanted_undef 10 true 57 rfl rfl t57) (hK undef _ jE rfl (fun _ _ _ h => h)))
          | (refine stepY ((wanted_of 10 true 57 _ rfl rfl t57).trans rfl) ?_
             go_simp
             exact hK _ _ jE rfl (fun _ _ _ h => h))
      · refine stepL_of ?_
        rintro F a w1 jE ⟨h11, t58, h10, t57, -⟩ - K hK
        have h11 : (F 11) = (if ((!p49) && p56) = true then .int .i64 n else undef) := h11
        rw [h11] at t58
        clear h11
        have h10 : (F 10) = (if (!p49) = true then .bool p56 else undef) := h10
        rw [h10] at t57
        clear h10
        cases p49 <;> cases p56
        all_goals first
          | (exact stepN ((wanted_of 10 true 57 _ rfl rfl t57).trans rfl) (hK undef _ jE rfl (fun _ _ _ h => h)))
          | (exact stepN (wanted_undef 10 true 57 rfl rfl t57) (hK undef _ jE rfl (fun _ _ _ h => h)))
          | (refine stepY ((wanted_of 10 true 57 _ rfl rfl t57).trans rfl) ?_
             have e1 := unhide Hp59
             go_simp
             exact hK _ _ jE rfl (fun _ _ _ h => h))
      · refine stepL_of ?_
        rintro F a w1 jE ⟨h12, t59, h10, t57, -⟩ - K hK
        have h12 : (F 12) = (if ((!p49) && p56) = true then .bool p59 else undef) := h12
        rw [h12] at t59
        clear h12
        have h10 : (F 10) = (if (!p49) = true then .bool p56 else undef) := h10
        rw [h10] at t57
        clear h10
        cases p49 <;> cases p56
        all_goals first
          | (exact stepN ((wanted_of 10 true 57 _ rfl rfl t57).trans rfl) (hK undef _ jE rfl (fun _ _ _ h => h)))
          | (exact stepN (wanted_undef 10 true 57 rfl rfl t57) (hK undef _ jE rfl (fun _ _ _ h => h)))
          | (refine stepY ((wanted_of 10 true 57 _ rfl rfl t57).trans rfl) ?_
             go_simp
             exact hK _ _ jE rfl (fun _ _ _ h => h))
      · refine stepL_of ?_
        rintro F a w1 jE ⟨h13, t60, -⟩ ⟨t8, -⟩ K hK
        have h13 : (F 13) = (if ((!p49) && p56) = true then .bool p59 else undef) := h13
        rw [h13] at t60
        clear h13
        have t8 : a.tmps[8]? = some (.int .i64 (k : Int)) := t8
        cases p49 <;> cases p56 <;> cases p59
        all_goals first
          | (exact stepN ((wanted_of 13 false 60 _ rfl rfl t60).trans rfl) (hK undef _ jE rfl (fun _ _ _ h => h)))
          | (exact stepN (wanted_undef 13 false 60 rfl rfl t60) (hK undef _ jE rfl (fun _ _ _ h => h)))
          | (refine stepY ((wanted_of 13 false 60 _ rfl rfl t60).trans rfl) ?_
             go_simp
             exact hK _ _ jE rfl (fun _ _ _ h => h))
      · refine stepL_of ?_
        rintro F a w1 jE ⟨h14, t61, h13, t60, -⟩ - K hK
        have h14 : (F 14) = (if (((!p49) && p56) && !p59) = true then .int .i64 (k : Int) else undef) := h14
        rw [h14] at t61
        clear h14
        have h13 : (F 13) = (if ((!p49) && p56) = true then .bool p59 else undef) := h13
        rw [h13] at t60
        clear h13
        cases p49 <;> cases p56 <;> cases p59
        all_goals first
          | (exact stepN ((wanted_of 13 false 60 _ rfl rfl t60).trans rfl) (hK undef _ jE rfl (fun _ _ _ h => h)))
          | (exact stepN (wanted_undef 13 false 60 rfl rfl t60) (hK undef _ jE rfl (fun _ _ _ h => h)))
          | (refine stepY ((wanted_of 13 false 60 _ rfl rfl t60).trans rfl) ?_
             have e1 := unhide Hp62
             go_simp
             exact hK _ _ jE rfl (fun _ _ _ h => h))
      · refine stepL_of ?_
        rintro F a w1 jE ⟨h13, t60, h15, t62, h10, t57, -⟩ - K hK
        have h13 : (F 13) = (if ((!p49) && p56) = true then .bool p59 else undef) := h13
        rw [h13] at t60
        clear h13
        have h15 : (F 15) = (if (((!p49) && p56) && !p59) = true then .bool p62 else undef) := h15
        rw [h15] at t62
        clear h15
        have h10 : (F 10) = (if (!p49) = true then .bool p56 else undef) := h10
        rw [h10] at t57
        clear h10
        cases p49 <;> cases p56 <;> cases p59 <;> cases p62
        all_goals first
          | (exact stepN ((wanted_of 10 true 57 _ rfl rfl t57).trans rfl) (hK undef _ jE rfl (fun _ _ _ h => h)))
          | (exact stepN (wanted_undef 10 true 57 rfl rfl t57) (hK undef _ jE rfl (fun _ _ _ h => h)))
          | (refine stepY ((wanted_of 10 true 57 _ rfl rfl t57).trans rfl) ?_
             obtain rfl := unhide Hp63
             go_simp
             exact hK _ _ jE rfl (fun _ _ _ h => h))
      · refine stepL_of ?_
        rintro F a w1 jE ⟨h10, t57, h16, t63, h3, t50, -⟩ - K hK
        have h10 : (F 10) = (if (!p49) = true then .bool p56 else undef) := h10
        rw [h10] at t57
        clear h10
        have h16 : (F 16) = (if ((!p49) && p56) = true then .bool p63 else undef) := h16
        rw [h16] at t63
        clear h16
        have h3 : (F 3) = .bool p49 := h3
        rw [h3] at t50
        clear h3
        cases p49 <;> cases p56 <;> cases p63
        all_goals first
          | (exact stepN ((wanted_of 3 false 50 _ rfl rfl t50).trans rfl) (hK undef _ jE rfl (fun _ _ _ h => h)))
          | (exact stepN (wanted_undef 3 false 50 rfl rfl t50) (hK undef _ jE rfl (fun _ _ _ h => h)))
          | (refine stepY ((wanted_of 3 false 50 _ rfl rfl t50).trans rfl) ?_
             obtain rfl := unhide Hp64
             go_simp
             exact hK _ _ jE rfl (fun _ _ _ h => h))
      · refine stepL_plain rfl ?_
        rintro F a w1 jE ⟨h3, t50, h17, t64, -⟩ - K hK
        have h3 : (F 3) = .bool p49 := h3
        rw [h3] at t50
        clear h3
        have h17 : (F 17) = (if (!p49) = true then .bool p64 else undef) := h17
        rw [h17] at t64
        clear h17
        cases p49 <;> cases p64
        all_goals
          obtain rfl := unhide Hp65
          go_simp
          exact hK _ _ jE rfl (fun _ _ _ h => h)
      · refine stepL_plain rfl ?_
        rintro F a w1 jE ⟨h18, t65, -⟩ - K hK
        have h18 : (F 18) = .bool p65 := h18
        rw [h18] at t65
        clear h18
        go_simp
        exact hK _ _ jE rfl (fun _ _ _ h => h)
      · refine stepL_of ?_
        rintro F a w1 jE ⟨h19, t66, -⟩ - K hK
        have h19 : (F 19) = .bool p65 := h19
        rw [h19] at t66
        clear h19
        cases p65
        all_goals first
          | (exact stepN ((wanted_of 19 true 66 _ rfl rfl t66).trans rfl) (hK undef _ jE rfl (fun _ _ _ h => h)))
          | (exact stepN (wanted_undef 19 true 66 rfl rfl t66) (hK undef _ jE rfl (fun _ _ _ h => h)))
          | (refine stepY ((wanted_of 19 true 66 _ rfl rfl t66).trans rfl) ?_
             go_simp
             with_reducible refine (works_any _).mono ?_
             rintro e w2 ⟨rfl, hx⟩
             exact hK _ _ (jE.trans hx) (rfl) (by intro jq hj uq h; have hj : jq ∈ [19] := hj; simp only [List.mem_singleton] at hj; subst hj; exact h))
      · refine stepL_plain rfl ?_
        rintro F a w1 jE ⟨h19, t66, h20, t67, -⟩ - K hK
        have h19 : (F 19) = .bool p65 := h19
        rw [h19] at t66
        clear h19
        have h20 : (F 20) = (if (p65) = true then .bool true else undef) := h20
        rw [h20] at t67
        clear h20
        cases p65
        all_goals
          obtain rfl := unhide Hp68
          go_simp
          exact hK _ _ jE rfl (fun _ _ _ h => h)
      · refine stepL_plain rfl ?_
        rintro F a w1 jE ⟨h21, t68, -⟩ - K hK
        have h21 : (F 21) = .bool p68 := h21
        rw [h21] at t68
        clear h21
        go_simp
        exact hK _ _ jE rfl (fun _ _ _ h => h)
    · rintro F wt jE ⟨h22, -⟩
      have h22 : (F 22) = .bool p68 := h22
      have hx := jE.ext (Ext.refl _) (by simp)
      replace B1 := B1.ext hx
      replace E1 := E1.trans hx
      clear jE hx
      simp only [putL, Act.put, Nat.reduceAdd, Nat.zero_add, List.setIfInBounds_toArray, List.set_cons_succ, List.set_cons_zero]
      rw [h22]
      clear h22
      have hp : p68 = true := by
        rw [unhide HF12]
        cases r3
        · simp
        · obtain ⟨x1, x2, x3⟩ := unhide h3 rfl
          simp
          omega
      rw [hp]
      go_wp2_with fail
      go_ret
      exact ⟨rfl, E1⟩
theorem law_autos (s : Sty) (q n : Int) (hq : 0 ≤ q ∧ q ≤ 255) (w : World) :
    Calls Try.prog 6 #[.agg s.cells, .int .u8 q, .int .i64 n] w fun e w' => e = .returned (.bool true) ∧ Ext w w' := by
  by_cases h : 131072 < s.ul
  · exact autos_vast s q n h w
  · obtain ⟨m, rfl⟩ := Int.eq_ofNat_of_zero_le hq.1
    exact autos_few s m n (by omega) (by omega) w
end Go.Proofs.Ytahneblnbafpoaa
