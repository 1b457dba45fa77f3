/- Styles: the law on sizes (plain law and walk). -/
import Derived.Test.YtahneblnbafpoaaStW
import Derived.IntWalk
namespace Go.Proofs.Ytahneblnbafpoaa
open Go.RowKit
theorem cutV_mono {x y : Int} (h : x ≤ y) : cutV x ≤ cutV y := by
  unfold cutV; split <;> split <;> (try split) <;> (try split) <;> omega
theorem cutV_bd (x : Int) : -1099511627776 ≤ cutV x ∧ cutV x ≤ 1099511627776 := by unfold cutV; split <;> (try split) <;> omega
theorem ofN_mono {k n n' h : Int} (hn : n ≤ n') (hh : 0 ≤ h) : ofN ⟨k, n⟩ h ≤ ofN ⟨k, n'⟩ h := by
  simp only [ofN]
  split
  · exact cutV_mono hn
  · split
    · exact cutV_mono (Int.ediv_le_ediv (by omega) (Int.mul_le_mul_of_nonneg_left hn hh))
    · omega
theorem ofN_bd (l : Ln) (h : Int) : -1099511627776 ≤ ofN l h ∧ ofN l h ≤ 1099511627776 := by
  unfold ofN
  split
  · exact cutV_bd _
  · split
    · exact cutV_bd _
    · omega
structure SizeFacts (n n2 n3 : Int) (a3 : Bool) : Prop where
  (lo : -1099511627776 ≤ n) (hi : n ≤ 1099511627776) (least : n2 ≤ n) (most : n2 < n → a3 = false → n ≤ n3)
theorem size_facts (l le mo : Ln) (h : Int) (ha : ofA l = false) : SizeFacts (sizeN l le mo h) (ofN le h) (ofN mo h) (ofA mo) := by
  have b1 := ofN_bd l h
  have b2 := ofN_bd le h
  have b3 := ofN_bd mo h
  have hs : sizeN l le mo h = max (ofN le h) (min (ofN l h) (if ofA mo = true then 1099511627776 else ofN mo h)) := by rw [sizeN, ha]; rfl
  rw [hs]
  cases ofA mo
  · simp only [Bool.false_eq_true, if_false]
    exact ⟨by omega, by omega, by omega, fun h1 _ => by omega⟩
  · simp only [if_true]
    exact ⟨by omega, by omega, by omega, fun _ h => by cases h⟩
theorem size_mono {k n n' h : Int} (le mo : Ln) (ha : ofA ⟨k, n⟩ = false) (hn : n ≤ n') (hh : 0 ≤ h) : sizeN ⟨k, n⟩ le mo h ≤ sizeN ⟨k, n'⟩ le mo h := by
  have := ofN_mono (k := k) hn hh
  have hb : ofA ⟨k, n'⟩ = false := ha
  rw [sizeN, sizeN, ha, hb]
  simp only [Bool.false_eq_true, if_false, withinV]
  omega
set_option maxRecDepth 100000 in
set_option maxHeartbeats 16000000 in
theorem law_sizes (l le mo : Ln) (h y : Int) (hl : bd64 l.n) (hle : bd64 le.n) (hmo : bd64 mo.n) (hh : bd64 h) (hy : 0 ≤ y ∧ y ≤ 65535) (w : World) :
    Calls Try.prog 5 #[l.v, le.v, mo.v, .int .i64 h, .int .u16 y] w fun e w' => e = .returned (.bool true) ∧ Ext w w' := by
  have c1 := fun w => hide (psize_any l le mo h hl hle hmo hh w)
  have c2 := fun w => hide (pof_any le h hle hh w)
  have c3 := fun w => hide (pof_any mo h hmo hh w)
  have HS := hide (size_facts l le mo h)
  have c5 := fun (q : l.n ≤ 4611686018427387904) w => hide (psize_any ⟨l.k, l.n + y⟩ le mo h (by have := hl.1; constructor <;> simp only <;> omega) hle hmo hh w)
  have HM := hide (fun (ha : ofA l = false) (hp : 0 ≤ h) => size_mono (k := l.k) (n := l.n) (n' := l.n + y) le mo ha (by omega) hp)
  have HA := hide (show ofA ⟨l.k, l.n + y⟩ = ofA l from rfl)
  have H0 := hide (fun ha : ofA l = true => (show sizeN l le mo h = 0 by rw [sizeN, if_pos ha]))
  obtain ⟨k1, m1⟩ := l
  simp only at c5 HM HA
  have hlo := hl.1
  have hhi := hl.2
  simp only at hlo hhi
  clear hl hle hmo hh
  generalize sizeN ⟨k1, m1⟩ le mo h = sn at *
  generalize sizeB ⟨k1, m1⟩ le mo h = sb at *
  generalize sizeN ⟨k1, m1 + y⟩ le mo h = sn2 at *
  generalize sizeB ⟨k1, m1 + y⟩ le mo h = sb2 at *
  generalize ofA ⟨k1, m1 + y⟩ = a1' at *
  generalize ofN le h = n2 at *
  generalize ofA le = a2 at *
  generalize ofB le h = b2 at *
  generalize ofN mo h = n3 at *
  generalize ofA mo = a3 at *
  generalize ofB mo h = b3 at *
  generalize ofA ⟨k1, m1⟩ = a1 at *
  obtain rfl := unhide HA
  obtain ⟨k2, m2⟩ := le
  obtain ⟨k3, m3⟩ := mo
  obtain ⟨hy0, hy1⟩ := hy
  clear HA
  go_enter Try.func5, Try.ntmps5
  go_upto_region 1 with fail
  have B1 : Blk (((w.alloc (.cells #[.int .u8 k1, .int .i64 m1] 23)).alloc (.cells #[.int .u8 k2, .int .i64 m2] 23)).alloc (.cells #[.int .u8 k3, .int .i64 m3] 23)) w.heap.size 23 #[.int .u8 k1, .int .i64 m1] := ((Blk.new _ _ _).alloc _).alloc _
  have B2 : Blk (((w.alloc (.cells #[.int .u8 k1, .int .i64 m1] 23)).alloc (.cells #[.int .u8 k2, .int .i64 m2] 23)).alloc (.cells #[.int .u8 k3, .int .i64 m3] 23)) (w.heap.size + 1) 23 #[.int .u8 k2, .int .i64 m2] := (Blk.new1 _ _ _ _).alloc _
  have B3 : Blk (((w.alloc (.cells #[.int .u8 k1, .int .i64 m1] 23)).alloc (.cells #[.int .u8 k2, .int .i64 m2] 23)).alloc (.cells #[.int .u8 k3, .int .i64 m3] 23)) (w.heap.size + 2) 23 #[.int .u8 k3, .int .i64 m3] := Blk.new2 _ _ _ _ _
  have E1 : Ext w (((w.alloc (.cells #[.int .u8 k1, .int .i64 m1] 23)).alloc (.cells #[.int .u8 k2, .int .i64 m2] 23)).alloc (.cells #[.int .u8 k3, .int .i64 m3] 23)) := (((Ext.refl _).alloc _).alloc _).alloc _
  generalize (((w.alloc (.cells #[.int .u8 k1, .int .i64 m1] 23)).alloc (.cells #[.int .u8 k2, .int .i64 m2] 23)).alloc (.cells #[.int .u8 k3, .int .i64 m3] 23)) = wa at *
  have d1 := B1.cell
  have l1 := B1.lt
  have d2 := B2.cell
  have l2 := B2.lt
  have d3 := B3.cell
  have l3 := B3.lt
  go_wp2_with fail
  refine (unhide (c1 _)).mono ?_
  rintro e w1 ⟨rfl, hx⟩
  replace B1 := B1.ext hx
  replace B2 := B2.ext hx
  replace B3 := B3.ext hx
  replace E1 := E1.trans hx
  clear hx c1
  clear d1 l1 d2 l2 d3 l3
  have d1 := B1.cell
  have l1 := B1.lt
  have d2 := B2.cell
  have l2 := B2.lt
  have d3 := B3.cell
  have l3 := B3.lt
  go_wp2_with fail
  refine (unhide (c2 _)).mono ?_
  rintro e w2 ⟨rfl, hx⟩
  replace B1 := B1.ext hx
  replace B2 := B2.ext hx
  replace B3 := B3.ext hx
  replace E1 := E1.trans hx
  clear hx c2
  clear d1 l1 d2 l2 d3 l3
  have d1 := B1.cell
  have l1 := B1.lt
  have d2 := B2.cell
  have l2 := B2.lt
  have d3 := B3.cell
  have l3 := B3.lt
  go_wp2_with fail
  refine (unhide (c3 _)).mono ?_
  rintro e w3 ⟨rfl, hx⟩
  replace B1 := B1.ext hx
  replace B2 := B2.ext hx
  replace B3 := B3.ext hx
  replace E1 := E1.trans hx
  clear hx c3
  clear d1 l1 d2 l2 d3 l3
  cases a1'
  rotate_left
  · have h0 := unhide H0 rfl
    rw [h0]
    clear h0 c5
    go_wp2_with fail
    refine (works_any _).mono ?_
    rintro e w9 ⟨rfl, hx⟩
    go_wp2_with fail
    go_ret
    exact ⟨rfl, E1.trans hx⟩
  obtain ⟨s1, s2, s3, s4⟩ := unhide HS rfl
  clear H0
  go_upto_region 6 with fail
  obtain ⟨p53, hp53⟩ : ∃ x, decide (1099511627776 < sn) = x := ⟨_, rfl⟩
  obtain ⟨p56, hp56⟩ : ∃ x, decide (sn < (-1099511627776)) = x := ⟨_, rfl⟩
  obtain ⟨p57, hp57⟩ : ∃ x, (p53 || p56) = x := ⟨_, rfl⟩
  obtain ⟨p61, hp61⟩ : ∃ x, decide (sn < n2) = x := ⟨_, rfl⟩
  obtain ⟨p62, hp62⟩ : ∃ x, (p57 || p61) = x := ⟨_, rfl⟩
  obtain ⟨p66, hp66⟩ : ∃ x, decide (n2 < sn) = x := ⟨_, rfl⟩
  obtain ⟨p69, hp69⟩ : ∃ x, (!a3) = x := ⟨_, rfl⟩
  obtain ⟨p70, hp70⟩ : ∃ x, (p66 && p69) = x := ⟨_, rfl⟩
  obtain ⟨p74, hp74⟩ : ∃ x, decide (n3 < sn) = x := ⟨_, rfl⟩
  obtain ⟨p75, hp75⟩ : ∃ x, (p70 && p74) = x := ⟨_, rfl⟩
  obtain ⟨p76, hp76⟩ : ∃ x, (p62 || p75) = x := ⟨_, rfl⟩
  have HF6 : Hid (p76 = (((decide (1099511627776 < sn) || decide (sn < (-1099511627776))) || decide (sn < n2)) || ((decide (n2 < sn) && (!a3)) && decide (n3 < sn)))) := hide (by rw [← hp76, ← hp75, ← hp74, ← hp70, ← hp69, ← hp66, ← hp62, ← hp61, ← hp57, ← hp56, ← hp53])
  have Hp53 := hide hp53
  have Hp56 := hide hp56
  have Hp57 := hide hp57
  have Hp61 := hide hp61
  have Hp62 := hide hp62
  have Hp66 := hide hp66
  have Hp69 := hide hp69
  have Hp70 := hide hp70
  have Hp74 := hide hp74
  have Hp75 := hide hp75
  have Hp76 := hide hp76
  clear hp53 hp56 hp57 hp61 hp62 hp66 hp69 hp70 hp74 hp75 hp76
  refine wp_region_lin0 (fun w' => (ExtX w3 w' [])) (fun ii vv ww => match ii with | 0 => vv = .int .i64 sn | 1 => vv = .bool p53 | 2 => vv = .bool p53 | 3 => vv = (if (!p53) = true then .int .i64 sn else undef) | 4 => vv = (if (!p53) = true then .bool p56 else undef) | 5 => vv = .bool p57 | 6 => vv = .bool p57 | 7 => vv = (if (!p57) = true then .int .i64 sn else undef) | 8 => vv = (if (!p57) = true then .int .i64 n2 else undef) | 9 => vv = (if (!p57) = true then .bool p61 else undef) | 10 => vv = .bool p62 | 11 => vv = .bool p62 | 12 => vv = (if (!p62) = true then .int .i64 sn else undef) | 13 => vv = (if (!p62) = true then .int .i64 n2 else undef) | 14 => vv = (if (!p62) = true then .bool p66 else undef) | 15 => vv = (if (!p62) = true then .bool p66 else undef) | 16 => vv = (if ((!p62) && p66) = true then .bool a3 else undef) | 17 => vv = (if ((!p62) && p66) = true then .bool p69 else undef) | 18 => vv = (if (!p62) = true then .bool p70 else undef) | 19 => vv = (if (!p62) = true then .bool p70 else undef) | 20 => vv = (if ((!p62) && p70) = true then .int .i64 sn else undef) | 21 => vv = (if ((!p62) && p70) = true then .int .i64 n3 else undef) | 22 => vv = (if ((!p62) && p70) = true then .bool p74 else undef) | 23 => vv = (if (!p62) = true then .bool p75 else undef) | 24 => vv = .bool p76 | _ => True) (fun ii => match ii with | 1 => [(0, 52)] | 2 => [(1, 53)] | 3 => [(2, 54)] | 4 => [(3, 55), (2, 54)] | 5 => [(2, 54), (4, 56)] | 6 => [(5, 57)] | 7 => [(6, 58)] | 8 => [(6, 58)] | 9 => [(7, 59), (8, 60), (6, 58)] | 10 => [(6, 58), (9, 61)] | 11 => [(10, 62)] | 12 => [(11, 63)] | 13 => [(11, 63)] | 14 => [(12, 64), (13, 65), (11, 63)] | 15 => [(14, 66), (11, 63)] | 16 => [(15, 67)] | 17 => [(16, 68), (15, 67)] | 18 => [(15, 67), (17, 69), (11, 63)] | 19 => [(18, 70), (11, 63)] | 20 => [(19, 71)] | 21 => [(19, 71)] | 22 => [(20, 72), (21, 73), (19, 71)] | 23 => [(19, 71), (22, 74), (11, 63)] | 24 => [(11, 63), (23, 75)] | _ => []) (fun ii => match ii with | 0 => [11] | 3 => [11] | 7 => [11] | 8 => [14] | 12 => [11] | 13 => [14] | 16 => [18] | 20 => [11] | 21 => [17] | _ => []) (fun ii => match ii with | 3 => [2] | 4 => [2] | 7 => [6, 8] | 8 => [6, 7] | 9 => [6] | 12 => [11, 13] | 13 => [11, 12] | 14 => [11] | 15 => [11] | 16 => [15, 11] | 17 => [15, 11] | 18 => [11] | 19 => [11] | 20 => [19, 21, 11] | 21 => [19, 20, 11] | 22 => [19, 11] | 23 => [11] | _ => []) [24] [0, 1, 3, 7, 15, 31, 63, 127, 127, 511, 1023, 2047, 4095, 4095, 16383, 32767, 65535, 131071, 262143, 524287, 1048575, 1048575, 4194303, 8388607, 16777215] 110 rfl (by kernel_rfl) (ExtX.refl _ _) ?_ ?_
  · rename_i hcont; clear hcont
    refine ⟨?_, ?_, ?_, ?_, ?_, ?_, ?_, ?_, ?_, ?_, ?_, ?_, ?_, ?_, ?_, ?_, ?_, ?_, ?_, ?_, ?_, ?_, ?_, ?_, ?_, trivial⟩
    · refine stepL_plain rfl ?_
      rintro F a w1 jE - ⟨t11, -⟩ K hK
      have t11 : a.tmps[11]? = some (.int .i64 sn) := t11
      go_simp
      exact hK _ _ jE rfl (fun _ _ _ h => h)
    · refine stepL_plain rfl ?_
      rintro F a w1 jE ⟨h0, t52, -⟩ - K hK
      have h0 : (F 0) = .int .i64 sn := h0
      rw [h0] at t52
      clear h0
      have e1 := unhide Hp53
      go_simp
      exact hK _ _ jE rfl (fun _ _ _ h => h)
    · refine stepL_plain rfl ?_
      rintro F a w1 jE ⟨h1, t53, -⟩ - K hK
      have h1 : (F 1) = .bool p53 := h1
      rw [h1] at t53
      clear h1
      go_simp
      exact hK _ _ jE rfl (fun _ _ _ h => h)
    · refine stepL_of ?_
      rintro F a w1 jE ⟨h2, t54, -⟩ ⟨t11, -⟩ K hK
      have h2 : (F 2) = .bool p53 := h2
      rw [h2] at t54
      clear h2
      have t11 : a.tmps[11]? = some (.int .i64 sn) := t11
      cases p53
      all_goals first
        | (exact stepN ((wanted_of 2 false 54 _ rfl rfl t54).trans rfl) (hK undef _ jE rfl (fun _ _ _ h => h)))
        | (exact stepN (wanted_undef 2 false 54 rfl rfl t54) (hK undef _ jE rfl (fun _ _ _ h => h)))
        | (refine stepY ((wanted_of 2 false 54 _ rfl rfl t54).trans rfl) ?_
           go_simp
           exact hK _ _ jE rfl (fun _ _ _ h => h))
    · refine stepL_of ?_
      rintro F a w1 jE ⟨h3, t55, h2, t54, -⟩ - K hK
      have h3 : (F 3) = (if (!p53) = true then .int .i64 sn else undef) := h3
      rw [h3] at t55
      clear h3
      have h2 : (F 2) = .bool p53 := h2
      rw [h2] at t54
      clear h2
      cases p53
      all_goals first
        | (exact stepN ((wanted_of 2 false 54 _ rfl rfl t54).trans rfl) (hK undef _ jE rfl (fun _ _ _ h => h)))
        | (exact stepN (wanted_undef 2 false 54 rfl rfl t54) (hK undef _ jE rfl (fun _ _ _ h => h)))
        | (refine stepY ((wanted_of 2 false 54 _ rfl rfl t54).trans rfl) ?_
           have e1 := unhide Hp56
           go_simp
           exact hK _ _ jE rfl (fun _ _ _ h => h))
    · refine stepL_plain rfl ?_
      rintro F a w1 jE ⟨h2, t54, h4, t56, -⟩ - K hK
      have h2 : (F 2) = .bool p53 := h2
      rw [h2] at t54
      clear h2
      have h4 : (F 4) = (if (!p53) = true then .bool p56 else undef) := h4
      rw [h4] at t56
      clear h4
      cases p53 <;> cases p56
      all_goals
        obtain rfl := unhide Hp57
        go_simp
        exact hK _ _ jE rfl (fun _ _ _ h => h)
    · refine stepL_plain rfl ?_
      rintro F a w1 jE ⟨h5, t57, -⟩ - K hK
      have h5 : (F 5) = .bool p57 := h5
      rw [h5] at t57
      clear h5
      go_simp
      exact hK _ _ jE rfl (fun _ _ _ h => h)
    · refine stepL_of ?_
      rintro F a w1 jE ⟨h6, t58, -⟩ ⟨t11, -⟩ K hK
      have h6 : (F 6) = .bool p57 := h6
      rw [h6] at t58
      clear h6
      have t11 : a.tmps[11]? = some (.int .i64 sn) := t11
      cases p57
      all_goals first
        | (exact stepN ((wanted_of 6 false 58 _ rfl rfl t58).trans rfl) (hK undef _ jE rfl (fun _ _ _ h => h)))
        | (exact stepN (wanted_undef 6 false 58 rfl rfl t58) (hK undef _ jE rfl (fun _ _ _ h => h)))
        | (refine stepY ((wanted_of 6 false 58 _ rfl rfl t58).trans rfl) ?_
           go_simp
           exact hK _ _ jE rfl (fun _ _ _ h => h))
    · refine stepL_of ?_
      rintro F a w1 jE ⟨h6, t58, -⟩ ⟨t14, -⟩ K hK
      have h6 : (F 6) = .bool p57 := h6
      rw [h6] at t58
      clear h6
      have t14 : a.tmps[14]? = some (.int .i64 n2) := t14
      cases p57
      all_goals first
        | (exact stepN ((wanted_of 6 false 58 _ rfl rfl t58).trans rfl) (hK undef _ jE rfl (fun _ _ _ h => h)))
        | (exact stepN (wanted_undef 6 false 58 rfl rfl t58) (hK undef _ jE rfl (fun _ _ _ h => h)))
        | (refine stepY ((wanted_of 6 false 58 _ rfl rfl t58).trans rfl) ?_
           go_simp
           exact hK _ _ jE rfl (fun _ _ _ h => h))
    · refine stepL_of ?_
      rintro F a w1 jE ⟨h7, t59, h8, t60, h6, t58, -⟩ - K hK
      have h7 : (F 7) = (if (!p57) = true then .int .i64 sn else undef) := h7
      rw [h7] at t59
      clear h7
      have h8 : (F 8) = (if (!p57) = true then .int .i64 n2 else undef) := h8
      rw [h8] at t60
      clear h8
      have h6 : (F 6) = .bool p57 := h6
      rw [h6] at t58
      clear h6
      cases p57
      all_goals first
        | (exact stepN ((wanted_of 6 false 58 _ rfl rfl t58).trans rfl) (hK undef _ jE rfl (fun _ _ _ h => h)))
        | (exact stepN (wanted_undef 6 false 58 rfl rfl t58) (hK undef _ jE rfl (fun _ _ _ h => h)))
        | (refine stepY ((wanted_of 6 false 58 _ rfl rfl t58).trans rfl) ?_
           have e1 := unhide Hp61
           go_simp
           exact hK _ _ jE rfl (fun _ _ _ h => h))
    · refine stepL_plain rfl ?_
      rintro F a w1 jE ⟨h6, t58, h9, t61, -⟩ - K hK
      have h6 : (F 6) = .bool p57 := h6
      rw [h6] at t58
      clear h6
      have h9 : (F 9) = (if (!p57) = true then .bool p61 else undef) := h9
      rw [h9] at t61
      clear h9
      cases p57 <;> cases p61
      all_goals
        obtain rfl := unhide Hp62
        go_simp
        exact hK _ _ jE rfl (fun _ _ _ h => h)
    · refine stepL_plain rfl ?_
      rintro F a w1 jE ⟨h10, t62, -⟩ - K hK
      have h10 : (F 10) = .bool p62 := h10
      rw [h10] at t62
      clear h10
      go_simp
      exact hK _ _ jE rfl (fun _ _ _ h => h)
    · refine stepL_of ?_
      rintro F a w1 jE ⟨h11, t63, -⟩ ⟨t11, -⟩ K hK
      have h11 : (F 11) = .bool p62 := h11
      rw [h11] at t63
      clear h11
      have t11 : a.tmps[11]? = some (.int .i64 sn) := t11
      cases p62
      all_goals first
        | (exact stepN ((wanted_of 11 false 63 _ rfl rfl t63).trans rfl) (hK undef _ jE rfl (fun _ _ _ h => h)))
        | (exact stepN (wanted_undef 11 false 63 rfl rfl t63) (hK undef _ jE rfl (fun _ _ _ h => h)))
        | (refine stepY ((wanted_of 11 false 63 _ rfl rfl t63).trans rfl) ?_
           go_simp
           exact hK _ _ jE rfl (fun _ _ _ h => h))
    · refine stepL_of ?_
      rintro F a w1 jE ⟨h11, t63, -⟩ ⟨t14, -⟩ K hK
      have h11 : (F 11) = .bool p62 := h11
      rw [h11] at t63
      clear h11
      have t14 : a.tmps[14]? = some (.int .i64 n2) := t14
      cases p62
      all_goals first
        | (exact stepN ((wanted_of 11 false 63 _ rfl rfl t63).trans rfl) (hK undef _ jE rfl (fun _ _ _ h => h)))
        | (exact stepN (wanted_undef 11 false 63 rfl rfl t63) (hK undef _ jE rfl (fun _ _ _ h => h)))
        | (refine stepY ((wanted_of 11 false 63 _ rfl rfl t63).trans rfl) ?_
           go_simp
           exact hK _ _ jE rfl (fun _ _ _ h => h))
    · refine stepL_of ?_
      rintro F a w1 jE ⟨h12, t64, h13, t65, h11, t63, -⟩ - K hK
      have h12 : (F 12) = (if (!p62) = true then .int .i64 sn else undef) := h12
      rw [h12] at t64
      clear h12
      have h13 : (F 13) = (if (!p62) = true then .int .i64 n2 else undef) := h13
      rw [h13] at t65
      clear h13
      have h11 : (F 11) = .bool p62 := h11
      rw [h11] at t63
      clear h11
      cases p62
      all_goals first
        | (exact stepN ((wanted_of 11 false 63 _ rfl rfl t63).trans rfl) (hK undef _ jE rfl (fun _ _ _ h => h)))
        | (exact stepN (wanted_undef 11 false 63 rfl rfl t63) (hK undef _ jE rfl (fun _ _ _ h => h)))
        | (refine stepY ((wanted_of 11 false 63 _ rfl rfl t63).trans rfl) ?_
           have e1 := unhide Hp66
           go_simp
           exact hK _ _ jE rfl (fun _ _ _ h => h))
    · refine stepL_of ?_
      rintro F a w1 jE ⟨h14, t66, h11, t63, -⟩ - K hK
      have h14 : (F 14) = (if (!p62) = true then .bool p66 else undef) := h14
      rw [h14] at t66
      clear h14
      have h11 : (F 11) = .bool p62 := h11
      rw [h11] at t63
      clear h11
      cases p62
      all_goals first
        | (exact stepN ((wanted_of 11 false 63 _ rfl rfl t63).trans rfl) (hK undef _ jE rfl (fun _ _ _ h => h)))
        | (exact stepN (wanted_undef 11 false 63 rfl rfl t63) (hK undef _ jE rfl (fun _ _ _ h => h)))
        | (refine stepY ((wanted_of 11 false 63 _ rfl rfl t63).trans rfl) ?_
           go_simp
           exact hK _ _ jE rfl (fun _ _ _ h => h))
    · refine stepL_of ?_
      rintro F a w1 jE ⟨h15, t67, -⟩ ⟨t18, -⟩ K hK
      have h15 : (F 15) = (if (!p62) = true then .bool p66 else undef) := h15
      rw [h15] at t67
      clear h15
      have t18 : a.tmps[18]? = some (.bool a3) := t18
      cases p62 <;> cases p66
      all_goals first
        | (exact stepN ((wanted_of 15 true 67 _ rfl rfl t67).trans rfl) (hK undef _ jE rfl (fun _ _ _ h => h)))
        | (exact stepN (wanted_undef 15 true 67 rfl rfl t67) (hK undef _ jE rfl (fun _ _ _ h => h)))
        | (refine stepY ((wanted_of 15 true 67 _ rfl rfl t67).trans rfl) ?_
           go_simp
           exact hK _ _ jE rfl (fun _ _ _ h => h))
    · refine stepL_of ?_
      rintro F a w1 jE ⟨h16, t68, h15, t67, -⟩ - K hK
      have h16 : (F 16) = (if ((!p62) && p66) = true then .bool a3 else undef) := h16
      rw [h16] at t68
      clear h16
      have h15 : (F 15) = (if (!p62) = true then .bool p66 else undef) := h15
      rw [h15] at t67
      clear h15
      cases p62 <;> cases p66
      all_goals first
        | (exact stepN ((wanted_of 15 true 67 _ rfl rfl t67).trans rfl) (hK undef _ jE rfl (fun _ _ _ h => h)))
        | (exact stepN (wanted_undef 15 true 67 rfl rfl t67) (hK undef _ jE rfl (fun _ _ _ h => h)))
        | (refine stepY ((wanted_of 15 true 67 _ rfl rfl t67).trans rfl) ?_
           have e1 := unhide Hp69
           go_simp
           exact hK _ _ jE rfl (fun _ _ _ h => h))
    · refine stepL_of ?_
      rintro F a w1 jE ⟨h15, t67, h17, t69, h11, t63, -⟩ - K hK
      have h15 : (F 15) = (if (!p62) = true then .bool p66 else undef) := h15
      rw [h15] at t67
      clear h15
      have h17 : (F 17) = (if ((!p62) && p66) = true then .bool p69 else undef) := h17
      rw [h17] at t69
      clear h17
      have h11 : (F 11) = .bool p62 := h11
      rw [h11] at t63
      clear h11
      cases p62 <;> cases p66 <;> cases p69
      all_goals first
        | (exact stepN ((wanted_of 11 false 63 _ rfl rfl t63).trans rfl) (hK undef _ jE rfl (fun _ _ _ h => h)))
        | (exact stepN (wanted_undef 11 false 63 rfl rfl t63) (hK undef _ jE rfl (fun _ _ _ h => h)))
        | (refine stepY ((wanted_of 11 false 63 _ rfl rfl t63).trans rfl) ?_
           obtain rfl := unhide Hp70
           go_simp
           exact hK _ _ jE rfl (fun _ _ _ h => h))
    · refine stepL_of ?_
      rintro F a w1 jE ⟨h18, t70, h11, t63, -⟩ - K hK
      have h18 : (F 18) = (if (!p62) = true then .bool p70 else undef) := h18
      rw [h18] at t70
      clear h18
      have h11 : (F 11) = .bool p62 := h11
      rw [h11] at t63
      clear h11
      cases p62
      all_goals first
        | (exact stepN ((wanted_of 11 false 63 _ rfl rfl t63).trans rfl) (hK undef _ jE rfl (fun _ _ _ h => h)))
        | (exact stepN (wanted_undef 11 false 63 rfl rfl t63) (hK undef _ jE rfl (fun _ _ _ h => h)))
        | (refine stepY ((wanted_of 11 false 63 _ rfl rfl t63).trans rfl) ?_
           go_simp
           exact hK _ _ jE rfl (fun _ _ _ h => h))
    · refine stepL_of ?_
      rintro F a w1 jE ⟨h19, t71, -⟩ ⟨t11, -⟩ K hK
      have h19 : (F 19) = (if (!p62) = true then .bool p70 else undef) := h19
      rw [h19] at t71
      clear h19
      have t11 : a.tmps[11]? = some (.int .i64 sn) := t11
      cases p62 <;> cases p70
      all_goals first
        | (exact stepN ((wanted_of 19 true 71 _ rfl rfl t71).trans rfl) (hK undef _ jE rfl (fun _ _ _ h => h)))
        | (exact stepN (wanted_undef 19 true 71 rfl rfl t71) (hK undef _ jE rfl (fun _ _ _ h => h)))
        | (refine stepY ((wanted_of 19 true 71 _ rfl rfl t71).trans rfl) ?_
           go_simp
           exact hK _ _ jE rfl (fun _ _ _ h => h))
    · refine stepL_of ?_
      rintro F a w1 jE ⟨h19, t71, -⟩ ⟨t17, -⟩ K hK
      have h19 : (F 19) = (if (!p62) = true then .bool p70 else undef) := h19
      rw [h19] at t71
      clear h19
      have t17 : a.tmps[17]? = some (.int .i64 n3) := t17
      cases p62 <;> cases p70
      all_goals first
        | (exact stepN ((wanted_of 19 true 71 _ rfl rfl t71).trans rfl) (hK undef _ jE rfl (fun _ _ _ h => h)))
        | (exact stepN (wanted_undef 19 true 71 rfl rfl t71) (hK undef _ jE rfl (fun _ _ _ h => h)))
        | (refine stepY ((wanted_of 19 true 71 _ rfl rfl t71).trans rfl) ?_
           go_simp
           exact hK _ _ jE rfl (fun _ _ _ h => h))
    · refine stepL_of ?_
      rintro F a w1 jE ⟨h20, t72, h21, t73, h19, t71, -⟩ - K hK
      have h20 : (F 20) = (if ((!p62) && p70) = true then .int .i64 sn else undef) := h20
      rw [h20] at t72
      clear h20
      have h21 : (F 21) = (if ((!p62) && p70) = true then .int .i64 n3 else undef) := h21
      rw [h21] at t73
      clear h21
      have h19 : (F 19) = (if (!p62) = true then .bool p70 else undef) := h19
      rw [h19] at t71
      clear h19
      cases p62 <;> cases p70
      all_goals first
        | (exact stepN ((wanted_of 19 true 71 _ rfl rfl t71).trans rfl) (hK undef _ jE rfl (fun _ _ _ h => h)))
        | (exact stepN (wanted_undef 19 true 71 rfl rfl t71) (hK undef _ jE rfl (fun _ _ _ h => h)))
        | (refine stepY ((wanted_of 19 true 71 _ rfl rfl t71).trans rfl) ?_
           have e1 := unhide Hp74
           go_simp
           exact hK _ _ jE rfl (fun _ _ _ h => h))
    · refine stepL_of ?_
      rintro F a w1 jE ⟨h19, t71, h22, t74, h11, t63, -⟩ - K hK
      have h19 : (F 19) = (if (!p62) = true then .bool p70 else undef) := h19
      rw [h19] at t71
      clear h19
      have h22 : (F 22) = (if ((!p62) && p70) = true then .bool p74 else undef) := h22
      rw [h22] at t74
      clear h22
      have h11 : (F 11) = .bool p62 := h11
      rw [h11] at t63
      clear h11
      cases p62 <;> cases p70 <;> cases p74
      all_goals first
        | (exact stepN ((wanted_of 11 false 63 _ rfl rfl t63).trans rfl) (hK undef _ jE rfl (fun _ _ _ h => h)))
        | (exact stepN (wanted_undef 11 false 63 rfl rfl t63) (hK undef _ jE rfl (fun _ _ _ h => h)))
        | (refine stepY ((wanted_of 11 false 63 _ rfl rfl t63).trans rfl) ?_
           obtain rfl := unhide Hp75
           go_simp
           exact hK _ _ jE rfl (fun _ _ _ h => h))
    · refine stepL_plain rfl ?_
      rintro F a w1 jE ⟨h11, t63, h23, t75, -⟩ - K hK
      have h11 : (F 11) = .bool p62 := h11
      rw [h11] at t63
      clear h11
      have h23 : (F 23) = (if (!p62) = true then .bool p75 else undef) := h23
      rw [h23] at t75
      clear h23
      cases p62 <;> cases p75
      all_goals
        obtain rfl := unhide Hp76
        go_simp
        exact hK _ _ jE rfl (fun _ _ _ h => h)
  · rintro F w4 jE ⟨h24, -⟩
    have h24 : (F 24) = .bool p76 := h24
    have hx := jE.ext (Ext.refl _) (by simp)
    replace E1 := E1.trans hx
    replace B1 := B1.ext hx
    replace B2 := B2.ext hx
    replace B3 := B3.ext hx
    clear jE hx
    simp only [putL, Act.put, Nat.reduceAdd, Nat.zero_add, List.setIfInBounds_toArray, List.set_cons_succ, List.set_cons_zero]
    rw [h24]
    clear h24
    have hp : p76 = false := by
      rw [unhide HF6]
      cases a3
      · have := s4
        simp at this ⊢
        omega
      · simp
        omega
    subst hp
    go_upto_region 8 with fail
    obtain ⟨p79, hp79⟩ : ∃ x, decide (4611686018427387904 < m1) = x := ⟨_, rfl⟩
    obtain ⟨p82, hp82⟩ : ∃ x, decide (h < 0) = x := ⟨_, rfl⟩
    obtain ⟨p83, hp83⟩ : ∃ x, (p79 || p82) = x := ⟨_, rfl⟩
    have HF8 : Hid (p83 = (decide (4611686018427387904 < m1) || decide (h < 0))) := hide (by rw [← hp83, ← hp82, ← hp79])
    have Hp79 := hide hp79
    have Hp82 := hide hp82
    have Hp83 := hide hp83
    clear hp79 hp82 hp83
    refine wp_region_lin0 (fun w' => (ExtX w4 w' [])) (fun ii vv ww => match ii with | 0 => vv = .pointer (some ⟨w.heap.size, 1, none⟩) | 1 => vv = .int .i64 m1 | 2 => vv = .bool p79 | 3 => vv = .bool p79 | 4 => vv = (if (!p79) = true then .int .i64 h else undef) | 5 => vv = (if (!p79) = true then .bool p82 else undef) | 6 => vv = .bool p83 | _ => True) (fun ii => match ii with | 1 => [(0, 77)] | 2 => [(1, 78)] | 3 => [(2, 79)] | 4 => [(3, 80)] | 5 => [(4, 81), (3, 80)] | 6 => [(3, 80), (5, 82)] | _ => []) (fun ii => match ii with | 0 => [5] | 4 => [3] | _ => []) (fun ii => match ii with | 4 => [3] | 5 => [3] | _ => []) [6] [0, 1, 3, 7, 15, 31, 63] 110 rfl (by kernel_rfl) (ExtX.refl _ _) ?_ ?_
    · rename_i hcont; clear hcont
      refine ⟨?_, ?_, ?_, ?_, ?_, ?_, ?_, trivial⟩
      · refine stepL_plain rfl ?_
        rintro F a w1 jE - ⟨t5, -⟩ K hK
        have t5 : a.tmps[5]? = some (.pointer (some ⟨w.heap.size, 0, none⟩)) := t5
        go_simp
        exact hK _ _ jE rfl (fun _ _ _ h => h)
      · refine stepL_plain rfl ?_
        rintro F a w1 jE ⟨h0, t77, -⟩ - K hK
        have h0 : (F 0) = .pointer (some ⟨w.heap.size, 1, none⟩) := h0
        rw [h0] at t77
        clear h0
        have c := (jE.blk B1 (by simp)).cell
        go_simp
        exact hK _ _ jE rfl (fun _ _ _ h => h)
      · refine stepL_plain rfl ?_
        rintro F a w1 jE ⟨h1, t78, -⟩ - K hK
        have h1 : (F 1) = .int .i64 m1 := h1
        rw [h1] at t78
        clear h1
        have e1 := unhide Hp79
        go_simp
        exact hK _ _ jE rfl (fun _ _ _ h => h)
      · refine stepL_plain rfl ?_
        rintro F a w1 jE ⟨h2, t79, -⟩ - K hK
        have h2 : (F 2) = .bool p79 := h2
        rw [h2] at t79
        clear h2
        go_simp
        exact hK _ _ jE rfl (fun _ _ _ h => h)
      · refine stepL_of ?_
        rintro F a w1 jE ⟨h3, t80, -⟩ ⟨t3, -⟩ K hK
        have h3 : (F 3) = .bool p79 := h3
        rw [h3] at t80
        clear h3
        have t3 : a.tmps[3]? = some (.int .i64 h) := t3
        cases p79
        all_goals first
          | (exact stepN ((wanted_of 3 false 80 _ rfl rfl t80).trans rfl) (hK undef _ jE rfl (fun _ _ _ h => h)))
          | (exact stepN (wanted_undef 3 false 80 rfl rfl t80) (hK undef _ jE rfl (fun _ _ _ h => h)))
          | (refine stepY ((wanted_of 3 false 80 _ rfl rfl t80).trans rfl) ?_
             go_simp
             exact hK _ _ jE rfl (fun _ _ _ h => h))
      · refine stepL_of ?_
        rintro F a w1 jE ⟨h4, t81, h3, t80, -⟩ - K hK
        have h4 : (F 4) = (if (!p79) = true then .int .i64 h else undef) := h4
        rw [h4] at t81
        clear h4
        have h3 : (F 3) = .bool p79 := h3
        rw [h3] at t80
        clear h3
        cases p79
        all_goals first
          | (exact stepN ((wanted_of 3 false 80 _ rfl rfl t80).trans rfl) (hK undef _ jE rfl (fun _ _ _ h => h)))
          | (exact stepN (wanted_undef 3 false 80 rfl rfl t80) (hK undef _ jE rfl (fun _ _ _ h => h)))
          | (refine stepY ((wanted_of 3 false 80 _ rfl rfl t80).trans rfl) ?_
             have e1 := unhide Hp82
             go_simp
             exact hK _ _ jE rfl (fun _ _ _ h => h))
      · refine stepL_plain rfl ?_
        rintro F a w1 jE ⟨h3, t80, h5, t82, -⟩ - K hK
        have h3 : (F 3) = .bool p79 := h3
        rw [h3] at t80
        clear h3
        have h5 : (F 5) = (if (!p79) = true then .bool p82 else undef) := h5
        rw [h5] at t82
        clear h5
        cases p79 <;> cases p82
        all_goals
          obtain rfl := unhide Hp83
          go_simp
          exact hK _ _ jE rfl (fun _ _ _ h => h)
    · rintro F w5 jE ⟨h6, -⟩
      have h6 : (F 6) = .bool p83 := h6
      have hx := jE.ext (Ext.refl _) (by simp)
      replace E1 := E1.trans hx
      replace B1 := B1.ext hx
      replace B2 := B2.ext hx
      replace B3 := B3.ext hx
      clear jE hx
      simp only [putL, Act.put, Nat.reduceAdd, Nat.zero_add, List.setIfInBounds_toArray, List.set_cons_succ, List.set_cons_zero]
      rw [h6]
      clear h6
      have HP8 : Hid (p83 = false → m1 ≤ 4611686018427387904 ∧ 0 ≤ h) := hide (fun hp => by
        have := unhide HF8
        rw [hp] at this
        simp at this
        omega)
      cases p83
      rotate_left
      · go_wp2_with fail
        refine (works_any _).mono ?_
        rintro e w9 ⟨rfl, hx⟩
        go_wp2_with fail
        go_ret
        exact ⟨rfl, E1.trans hx⟩
      obtain ⟨g1, g2⟩ := unhide HP8 rfl
      have c5 := fun w => c5 g1 w
      have HMM := hide (unhide HM (by trivial) g2)
      have e1 : IntKind.i64.wrap (m1 + y) = m1 + y := IntWalk.i64_in _ (by omega)
      have e2 : IntKind.i64.wrap y = y := IntWalk.i64_in _ (by omega)
      have d1 := B1.cell
      have l1 := B1.lt
      have f1 := B1.frozen
      go_upto_region 11 with fail
      have B1' := B1.set_ 1 (.int .i64 (m1 + y))
      have B2' := B2.far (p := ⟨w.heap.size, 1, none⟩) (by simp) (.int .i64 (m1 + y))
      have B3' := B3.far (p := ⟨w.heap.size, 1, none⟩) (by simp) (.int .i64 (m1 + y))
      have E1' := E1.set (p := ⟨w.heap.size, 1, none⟩) (by simp) (.int .i64 (m1 + y))
      clear d1 l1 f1 B1 B2 B3 E1 e1 e2
      generalize World.setCell _ _ _ = w6 at *
      have B1 : Blk w6 w.heap.size 23 #[.int .u8 k1, .int .i64 (m1 + y)] := B1'
      have E1 := E1'
      have B2 := B2'
      have B3 := B3'
      clear B1' B2' B3' E1'
      have d1 := B1.cell
      have l1 := B1.lt
      have d2 := B2.cell
      have l2 := B2.lt
      have d3 := B3.cell
      have l3 := B3.lt
      go_wp2_with fail
      refine (unhide (c5 _)).mono ?_
      rintro e w7 ⟨rfl, hx⟩
      replace E1 := E1.trans hx
      clear hx d1 l1 d2 l2 d3 l3
      have hge : decide (sn ≤ sn2) = true := by simpa using unhide HMM
      go_wp2_with fail
      refine (works_any _).mono ?_
      rintro e w8 ⟨rfl, hx⟩
      go_wp2_with fail
      go_ret
      exact ⟨rfl, E1.trans hx⟩
end Go.Proofs.Ytahneblnbafpoaa
