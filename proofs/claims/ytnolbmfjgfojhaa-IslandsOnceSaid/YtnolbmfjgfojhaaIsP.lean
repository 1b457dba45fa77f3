/- Islands: numbers as values; the law IslandsPlays (walk). -/
import Derived.Test.YtnolbmfjgfojhaaIsH
import Derived.Test.YtnolbmfjgfojhaaWkB
namespace Go.Proofs.Ytnolbmfjgfojhaa
open Go.RowKit
/-- a value that is a slice of these numbers -/
def SlAt (w : World) (v : Value) (l : List Int) : Prop := ∃ A c, v = .slice A l.length c ∧ Rd w 1 A l.length (ints l)
theorem SlAt.ext {w w' : World} {v : Value} {l : List Int} (h : SlAt w v l) (hx : Ext w w') : SlAt w' v l := by
  obtain ⟨A, c, h1, h2⟩ := h
  exact ⟨A, c, h1, h2.ext hx⟩
def AtOut (w : World) (l : List Int) (e : Ending) (w' : World) : Prop := (∃ v, e = .returned v ∧ SlAt w' v l) ∧ Ext w w'
theorem IntsOut.at_ {w w' : World} {l : List Int} {e : Ending} (h : IntsOut w l e w') : AtOut w l e w' := by
  obtain ⟨A, c, rfl, h2, h3⟩ := h
  exact ⟨⟨_, rfl, A, c, rfl, h2⟩, h3⟩
theorem same_at (u v : Value) (xs : List Int) (w : World) (hu : SlAt w u xs) (hv : SlAt w v xs) (hl : xs.length ≤ maxLen) :
    Calls Try.prog 33 #[u, v] w fun e w' => e = .returned (.bool true) ∧ Ext w w' := by
  obtain ⟨A, c, rfl, ha⟩ := hu
  obtain ⟨B, d, rfl, hb⟩ := hv
  exact same_yes A B _ c _ d xs w ha hb hl hl
theorem insN_len (ns : List Nd) (z : Int) : (insN ns z).length ≤ ns.length := by
  unfold insN
  split
  · exact insR_len _ _ _
  · simp
section
variable (t : Tr) (ns : List Nd) (av : List Int)
set_option maxRecDepth 100000 in
set_option maxHeartbeats 16000000 in
theorem law_isPlays (more : Int) (w : World) (h : TrIn w t ns av) (hm : t.nl ≤ maxLen) (ha : t.al ≤ maxLen) :
    Calls Try.prog 9 #[.agg t.cs, .int .i64 more] w fun e w' => e = .returned (.bool true) ∧ Ext w w' := by
  have cm := fun w h => hide (small_any t ns av w h hm ha)
  go_enter Try.func9, Try.ntmps9
  go_wp2_with fail
  refine (unhide (cm _ (h.ext ((Ext.refl _).alloc _)))).mono ?_
  rintro e w1 ⟨q, rfl, hq, hx⟩
  have BT : Blk w1 w.heap.size 25 t.cs := (Blk.new _ _ _).ext hx
  have E1 : Ext w w1 := ((Ext.refl _).alloc _).trans hx
  have HQ := hide hq
  clear hx cm hq
  cases q
  · go_wp2_with fail
    refine (works18_any _).mono ?_
    rintro e w2 ⟨rfl, hx⟩
    go_wp2_with fail
    go_ret
    exact ⟨rfl, E1.trans hx⟩
  obtain ⟨hn, hck⟩ := unhide HQ rfl
  have HT := hide (TOk.of hn hck)
  have hl := h.nodes.nlen
  have hnl : t.nl ≤ 300 := by omega
  have hm1 : t.nl ≤ 1000000 := by omega
  have hN := h.nodes
  have hL1 : (rootsN ns ns.length).length ≤ maxLen := by have := rootsN_len ns ns.length; unfold maxLen; omega
  have hL2 : (ofN ns).length ≤ maxLen := by rw [ofN_len]; unfold maxLen; omega
  have cR := fun w h => hide ((roots_any t ns w h hm1).mono fun _ _ h => h.at_)
  have cR2 := fun w h => hide ((refroots_any t ns w h hm1).mono fun _ _ h => h.at_)
  have cO := fun w h => hide ((of_any t ns (unhide HT) w h hm1).mono fun _ _ h => h.at_)
  have cO2 := fun w h => hide ((refof_any t ns (unhide HT) w h hm1).mono fun _ _ h => h.at_)
  have cI := fun z w h => hide ((inside_any t ns (unhide HT) z w h hm1).mono fun _ _ h => h.at_)
  have cI2 := fun z w h => hide ((refinside_any t ns (unhide HT) z w h hm1).mono fun _ _ h => h.at_)
  have cV := fun z w h => hide (over_any t ns (unhide HT) z w h hm)
  have cV2 := fun z w h => hide (refover_any t ns (unhide HT) z w h hm)
  have cS := fun u v xs w hu hv hl => hide (same_at u v xs w hu hv hl)
  have cS1 := fun u v w hu hv => cS u v _ w hu hv hL1
  have cS2 := fun u v w hu hv => cS u v _ w hu hv hL2
  have cS3 := fun z u v w hu hv => cS u v (insN ns z) w hu hv (by have := insN_len ns z; unfold maxLen; omega)
  have cW := fun w => hide (works18_any w)
  have HL := hide hl
  clear HQ hn hck hm ha hL1 hL2 cS h hl
  generalize hg : w.heap.size = g at *
  have HG := hide hg
  clear hg
  go_upto_region 3 with fail
  refine wp_region_lin (by kernel_rfl) (fun w' => (ExtX w1 w' [])) (fun ii vv ww => match ii with | 0 => vv = (.agg t.cs) | 1 => SlAt ww vv (rootsN ns ns.length) | 2 => vv = (.agg t.cs) | 3 => SlAt ww vv (rootsN ns ns.length) | 4 => vv = .bool true | 5 => vv = .bool false | 6 => vv = .bool false | 7 => vv = (.agg t.cs) | 8 => SlAt ww vv (ofN ns) | 9 => vv = (.agg t.cs) | 10 => SlAt ww vv (ofN ns) | 11 => vv = .bool true | 12 => vv = .bool false | 13 => vv = .bool false | _ => True) (fun ii => match ii with | 1 => [(0, 10)] | 3 => [(2, 12)] | 4 => [(1, 11), (3, 13)] | 5 => [(4, 14)] | 6 => [(5, 15)] | 7 => [(6, 16)] | 8 => [(7, 17), (6, 16)] | 9 => [(6, 16)] | 10 => [(9, 19), (6, 16)] | 11 => [(8, 18), (10, 20), (6, 16)] | 12 => [(11, 21), (6, 16)] | 13 => [(6, 16), (12, 22)] | _ => []) (fun ii => match ii with | 0 => [2] | 2 => [2] | 7 => [2] | 9 => [2] | _ => []) (fun ii => match ii with | 0 => [2] | 1 => [2] | 2 => [0, 1] | 3 => [1] | 7 => [6, 9] | 8 => [6, 9] | 9 => [6, 7, 8] | 10 => [8, 6] | 11 => [6] | 12 => [6] | _ => []) [13] [0, 1, 0, 7, 15, 31, 63, 127, 255, 127, 1023, 2047, 4095, 8191] 73 rfl (by kernel_rfl) (ExtX.start _ _) ?_ ?_
  · rename_i hcont; clear hcont
    refine ⟨?_, ?_, ?_, ?_, ?_, ?_, ?_, ?_, ?_, ?_, ?_, ?_, ?_, ?_, trivial⟩
    · refine stepL_plain rfl ?_
      rintro F a w1 jE - ⟨t2, -⟩ K hK
      have t2 : a.tmps[2]? = some (.pointer (some ⟨g, 0, none⟩)) := t2
      have c := (jE.blk BT (by simp)).cell
      refine wp_load_blk 25 _ rfl g (eval_tmp t2) 25 t.cs _ (jE.blk BT (by simp)) Try.underlying25 rfl (info_tree _) ?_
      exact hK _ _ jE rfl (fun _ _ _ h => h)
    · refine stepL_plain rfl ?_
      rintro F a w1 jE ⟨h0, t10, -⟩ - K hK
      have h0 : (F 0) = (.agg t.cs) := h0
      rw [h0] at t10
      clear h0
      go_simp
      with_reducible refine (unhide (cR _ (hN.ext (E1.trans (jE.ext (Ext.refl _) (by simp)))))).mono ?_
      rintro e w2 ⟨⟨v', rfl, hv⟩, hx⟩
      exact hK _ _ (jE.trans hx) hv (by intro jq hj uq h; have hj : jq ∈ [2] := hj; simp only [List.mem_singleton] at hj; subst hj; exact h)
    · refine stepL_plain rfl ?_
      rintro F a w1 jE - ⟨t2, -⟩ K hK
      have t2 : a.tmps[2]? = some (.pointer (some ⟨g, 0, none⟩)) := t2
      have c := (jE.blk BT (by simp)).cell
      refine wp_load_blk 25 _ rfl g (eval_tmp t2) 25 t.cs _ (jE.blk BT (by simp)) Try.underlying25 rfl (info_tree _) ?_
      exact hK _ _ jE rfl (fun _ _ _ h => h)
    · refine stepL_plain rfl ?_
      rintro F a w1 jE ⟨h2, t12, -⟩ - K hK
      have h2 : (F 2) = (.agg t.cs) := h2
      rw [h2] at t12
      clear h2
      go_simp
      with_reducible refine (unhide (cR2 _ (hN.ext (E1.trans (jE.ext (Ext.refl _) (by simp)))))).mono ?_
      rintro e w2 ⟨⟨v', rfl, hv⟩, hx⟩
      exact hK _ _ (jE.trans hx) hv (by intro jq hj uq h; have hj : jq ∈ [1] := hj; simp only [List.mem_singleton] at hj; subst hj; exact (have h : SlAt w1 uq (rootsN ns ns.length) := h; h.ext hx))
    · refine stepL_plain rfl ?_
      rintro F a w1 jE ⟨h1, t11, h3, t13, -⟩ - K hK
      have h1 : SlAt w1 (F 1) (rootsN ns ns.length) := h1
      have h3 : SlAt w1 (F 3) (rootsN ns ns.length) := h3
      go_simp
      with_reducible refine (unhide (cS1 _ _ _ h1 h3)).mono ?_
      rintro e w2 ⟨rfl, hx⟩
      exact hK _ _ (jE.trans hx) (rfl) (fun _ hj _ _ => (List.not_mem_nil hj).elim)
    · refine stepL_plain rfl ?_
      rintro F a w1 jE ⟨h4, t14, -⟩ - K hK
      have h4 : (F 4) = .bool true := h4
      rw [h4] at t14
      clear h4
      go_simp
      exact hK _ _ jE rfl (fun _ _ _ h => h)
    · refine stepL_plain rfl ?_
      rintro F a w1 jE ⟨h5, t15, -⟩ - K hK
      have h5 : (F 5) = .bool false := h5
      rw [h5] at t15
      clear h5
      go_simp
      exact hK _ _ jE rfl (fun _ _ _ h => h)
    · refine stepL_of ?_
      rintro F a w1 jE ⟨h6, t16, -⟩ ⟨t2, -⟩ K hK
      have h6 : (F 6) = .bool false := h6
      rw [h6] at t16
      clear h6
      have t2 : a.tmps[2]? = some (.pointer (some ⟨g, 0, none⟩)) := t2
      refine stepY ((wanted_of 6 false 16 _ rfl rfl t16).trans rfl) ?_
      have c := (jE.blk BT (by simp)).cell
      refine wp_load_blk 25 _ rfl g (eval_tmp t2) 25 t.cs _ (jE.blk BT (by simp)) Try.underlying25 rfl (info_tree _) ?_
      exact hK _ _ jE rfl (fun _ _ _ h => h)
    · refine stepL_of ?_
      rintro F a w1 jE ⟨h7, t17, h6, t16, -⟩ - K hK
      have h7 : (F 7) = (.agg t.cs) := h7
      rw [h7] at t17
      clear h7
      have h6 : (F 6) = .bool false := h6
      rw [h6] at t16
      clear h6
      refine stepY ((wanted_of 6 false 16 _ rfl rfl t16).trans rfl) ?_
      go_simp
      with_reducible refine (unhide (cO _ (hN.ext (E1.trans (jE.ext (Ext.refl _) (by simp)))))).mono ?_
      rintro e w2 ⟨⟨v', rfl, hv⟩, hx⟩
      exact hK _ _ (jE.trans hx) hv (by intro jq hj uq h; have hj : jq ∈ [6, 9] := hj; simp only [List.mem_cons, List.not_mem_nil, or_false] at hj; rcases hj with rfl | rfl; exact h; exact h)
    · refine stepL_of ?_
      rintro F a w1 jE ⟨h6, t16, -⟩ ⟨t2, -⟩ K hK
      have h6 : (F 6) = .bool false := h6
      rw [h6] at t16
      clear h6
      have t2 : a.tmps[2]? = some (.pointer (some ⟨g, 0, none⟩)) := t2
      refine stepY ((wanted_of 6 false 16 _ rfl rfl t16).trans rfl) ?_
      have c := (jE.blk BT (by simp)).cell
      refine wp_load_blk 25 _ rfl g (eval_tmp t2) 25 t.cs _ (jE.blk BT (by simp)) Try.underlying25 rfl (info_tree _) ?_
      exact hK _ _ jE rfl (fun _ _ _ h => h)
    · refine stepL_of ?_
      rintro F a w1 jE ⟨h9, t19, h6, t16, -⟩ - K hK
      have h9 : (F 9) = (.agg t.cs) := h9
      rw [h9] at t19
      clear h9
      have h6 : (F 6) = .bool false := h6
      rw [h6] at t16
      clear h6
      refine stepY ((wanted_of 6 false 16 _ rfl rfl t16).trans rfl) ?_
      go_simp
      with_reducible refine (unhide (cO2 _ (hN.ext (E1.trans (jE.ext (Ext.refl _) (by simp)))))).mono ?_
      rintro e w2 ⟨⟨v', rfl, hv⟩, hx⟩
      exact hK _ _ (jE.trans hx) hv (by intro jq hj uq h; have hj : jq ∈ [8, 6] := hj; simp only [List.mem_cons, List.not_mem_nil, or_false] at hj; rcases hj with rfl | rfl; exact (have h : SlAt w1 uq (ofN ns) := h; h.ext hx); exact h)
    · refine stepL_of ?_
      rintro F a w1 jE ⟨h8, t18, h10, t20, h6, t16, -⟩ - K hK
      have h8 : SlAt w1 (F 8) (ofN ns) := h8
      have h10 : SlAt w1 (F 10) (ofN ns) := h10
      have h6 : (F 6) = .bool false := h6
      rw [h6] at t16
      clear h6
      refine stepY ((wanted_of 6 false 16 _ rfl rfl t16).trans rfl) ?_
      go_simp
      with_reducible refine (unhide (cS2 _ _ _ h8 h10)).mono ?_
      rintro e w2 ⟨rfl, hx⟩
      exact hK _ _ (jE.trans hx) (rfl) (by intro jq hj uq h; have hj : jq ∈ [6] := hj; simp only [List.mem_singleton] at hj; subst hj; exact h)
    · refine stepL_of ?_
      rintro F a w1 jE ⟨h11, t21, h6, t16, -⟩ - K hK
      have h11 : (F 11) = .bool true := h11
      rw [h11] at t21
      clear h11
      have h6 : (F 6) = .bool false := h6
      rw [h6] at t16
      clear h6
      refine stepY ((wanted_of 6 false 16 _ rfl rfl t16).trans rfl) ?_
      go_simp
      exact hK _ _ jE rfl (fun _ _ _ h => h)
    · refine stepL_plain rfl ?_
      rintro F a w1 jE ⟨h6, t16, h12, t22, -⟩ - K hK
      have h6 : (F 6) = .bool false := h6
      rw [h6] at t16
      clear h6
      have h12 : (F 12) = .bool false := h12
      rw [h12] at t22
      clear h12
      go_simp
      exact hK _ _ jE rfl (fun _ _ _ h => h)
  · rintro F w9 jE ⟨h13, -⟩
    have h13 : (F 13) = .bool false := h13
    have hx := jE.ext (Ext.refl _) (by simp)
    replace E1 := E1.trans hx
    replace BT := BT.ext hx
    clear jE hx
    simp only [putL, Act.put, Nat.reduceAdd, Nat.zero_add, List.setIfInBounds_toArray, List.set_cons_succ, List.set_cons_zero]
    rw [h13]
    clear h13
    go_wp2_with fail
    go_loopw [5] (fun v wr => ∃ x : Int, v = .int .i64 x ∧ -1 ≤ x ∧ x ≤ (t.nl : Int) + 1 ∧ Ext w wr ∧ Blk wr g 25 t.cs) (fun v _ => ((t.nl : Int) + 1 - intOf v).toNat)
    case atStart => exact ⟨-1, rfl, by omega, by omega, E1, BT⟩
    case round =>
      clear E1 BT
      obtain ⟨x, rfl, x1, x2, E1, BT⟩ := hrel
      have c1 := BT.cell
      have l1 := BT.lt
      by_cases hx : x ≤ (t.nl : Int)
      · go_upto_region 8 with fail
        clear c1 l1
        by_cases h60 : t.nl ≤ 60
        · refine wp_region_lin (by kernel_rfl) (fun w' => (ExtX wr w' [])) (fun ii vv ww => match ii with | 0 => vv = (.agg t.cs) | 1 => vv = .int .i64 x | 2 => vv = .int .i64 (overI ns x) | 3 => vv = (.agg t.cs) | 4 => vv = .int .i64 x | 5 => vv = .int .i64 (overI ns x) | 6 => vv = .bool false | 7 => vv = .bool false | 8 => vv = .pointer (some ⟨g, 0, none⟩) | 9 => vv = .slice t.na t.nl t.nc | 10 => vv = .int .i64 ((t.nl : Nat) : Int) | 11 => vv = .bool true | 12 => vv = .bool true | 13 => vv = (.agg t.cs) | 14 => vv = .int .i64 x | 15 => SlAt ww vv (insN ns x) | 16 => vv = (.agg t.cs) | 17 => vv = .int .i64 x | 18 => SlAt ww vv (insN ns x) | 19 => vv = .bool true | 20 => vv = .bool false | 21 => vv = .bool false | 22 => vv = .bool false | _ => True) (fun ii => match ii with | 2 => [(0, 31), (1, 32)] | 5 => [(3, 34), (4, 35)] | 6 => [(2, 33), (5, 36)] | 7 => [(6, 37)] | 8 => [(7, 38)] | 9 => [(8, 39), (7, 38)] | 10 => [(9, 40), (7, 38)] | 11 => [(10, 41), (7, 38)] | 12 => [(11, 42), (7, 38)] | 13 => [(12, 43)] | 14 => [(12, 43)] | 15 => [(13, 44), (14, 45), (12, 43)] | 16 => [(12, 43)] | 17 => [(12, 43)] | 18 => [(16, 47), (17, 48), (12, 43)] | 19 => [(15, 46), (18, 49), (12, 43)] | 20 => [(19, 50), (12, 43)] | 21 => [(12, 43), (20, 51), (7, 38)] | 22 => [(7, 38), (21, 52)] | _ => []) (fun ii => match ii with | 0 => [2] | 1 => [5] | 3 => [2] | 4 => [5] | 8 => [2] | 13 => [2] | 14 => [5] | 16 => [2] | 17 => [5] | _ => []) (fun ii => match ii with | 0 => [1, 3, 4] | 1 => [0, 3, 4] | 2 => [3, 4] | 3 => [0, 1, 4, 2] | 4 => [0, 1, 3, 2] | 5 => [2] | 8 => [7] | 9 => [7] | 10 => [7] | 11 => [7] | 12 => [7] | 13 => [12, 14, 16, 17, 7] | 14 => [12, 13, 16, 17, 7] | 15 => [12, 16, 17, 7] | 16 => [12, 13, 14, 17, 15, 7] | 17 => [12, 13, 14, 16, 15, 7] | 18 => [15, 12, 7] | 19 => [12, 7] | 20 => [12, 7] | 21 => [7] | _ => []) [22] [0, 0, 3, 0, 0, 31, 63, 127, 255, 511, 1023, 2047, 4095, 8191, 8191, 32767, 8191, 8191, 262143, 524287, 1048575, 2097151, 4194303] 73 rfl (by kernel_rfl) (ExtX.start _ _) ?_ ?_
          · rename_i hcont; clear hcont
            refine ⟨?_, ?_, ?_, ?_, ?_, ?_, ?_, ?_, ?_, ?_, ?_, ?_, ?_, ?_, ?_, ?_, ?_, ?_, ?_, ?_, ?_, ?_, ?_, trivial⟩
            · refine stepL_plain rfl ?_
              rintro F a w1 jE - ⟨t2, -⟩ K hK
              have t2 : a.tmps[2]? = some (.pointer (some ⟨g, 0, none⟩)) := t2
              have c := (jE.blk BT (by simp)).cell
              refine wp_load_blk 25 _ rfl g (eval_tmp t2) 25 t.cs _ (jE.blk BT (by simp)) Try.underlying25 rfl (info_tree _) ?_
              exact hK _ _ jE rfl (fun _ _ _ h => h)
            · refine stepL_plain rfl ?_
              rintro F a w1 jE - ⟨t5, -⟩ K hK
              have t5 : a.tmps[5]? = some (.int .i64 x) := t5
              go_simp
              exact hK _ _ jE rfl (fun _ _ _ h => h)
            · refine stepL_plain rfl ?_
              rintro F a w1 jE ⟨h0, t31, h1, t32, -⟩ - K hK
              have h0 : (F 0) = (.agg t.cs) := h0
              rw [h0] at t31
              clear h0
              have h1 : (F 1) = .int .i64 x := h1
              rw [h1] at t32
              clear h1
              go_simp
              with_reducible refine (unhide (cV _ _ (hN.ext (E1.trans (jE.ext (Ext.refl _) (by simp)))))).mono ?_
              rintro e w2 ⟨rfl, hx⟩
              exact hK _ _ (jE.trans hx) (rfl) (by intro jq hj uq h; have hj : jq ∈ [3, 4] := hj; simp only [List.mem_cons, List.not_mem_nil, or_false] at hj; rcases hj with rfl | rfl; exact h; exact h)
            · refine stepL_plain rfl ?_
              rintro F a w1 jE - ⟨t2, -⟩ K hK
              have t2 : a.tmps[2]? = some (.pointer (some ⟨g, 0, none⟩)) := t2
              have c := (jE.blk BT (by simp)).cell
              refine wp_load_blk 25 _ rfl g (eval_tmp t2) 25 t.cs _ (jE.blk BT (by simp)) Try.underlying25 rfl (info_tree _) ?_
              exact hK _ _ jE rfl (fun _ _ _ h => h)
            · refine stepL_plain rfl ?_
              rintro F a w1 jE - ⟨t5, -⟩ K hK
              have t5 : a.tmps[5]? = some (.int .i64 x) := t5
              go_simp
              exact hK _ _ jE rfl (fun _ _ _ h => h)
            · refine stepL_plain rfl ?_
              rintro F a w1 jE ⟨h3, t34, h4, t35, -⟩ - K hK
              have h3 : (F 3) = (.agg t.cs) := h3
              rw [h3] at t34
              clear h3
              have h4 : (F 4) = .int .i64 x := h4
              rw [h4] at t35
              clear h4
              go_simp
              with_reducible refine (unhide (cV2 _ _ (hN.ext (E1.trans (jE.ext (Ext.refl _) (by simp)))))).mono ?_
              rintro e w2 ⟨rfl, hx⟩
              exact hK _ _ (jE.trans hx) (rfl) (by intro jq hj uq h; have hj : jq ∈ [2] := hj; simp only [List.mem_singleton] at hj; subst hj; exact h)
            · refine stepL_plain rfl ?_
              rintro F a w1 jE ⟨h2, t33, h5, t36, -⟩ - K hK
              have h2 : (F 2) = .int .i64 (overI ns x) := h2
              rw [h2] at t33
              clear h2
              have h5 : (F 5) = .int .i64 (overI ns x) := h5
              rw [h5] at t36
              clear h5
              go_simp
              exact hK _ _ jE rfl (fun _ _ _ h => h)
            · refine stepL_plain rfl ?_
              rintro F a w1 jE ⟨h6, t37, -⟩ - K hK
              have h6 : (F 6) = .bool false := h6
              rw [h6] at t37
              clear h6
              go_simp
              exact hK _ _ jE rfl (fun _ _ _ h => h)
            · refine stepL_of ?_
              rintro F a w1 jE ⟨h7, t38, -⟩ ⟨t2, -⟩ K hK
              have h7 : (F 7) = .bool false := h7
              rw [h7] at t38
              clear h7
              have t2 : a.tmps[2]? = some (.pointer (some ⟨g, 0, none⟩)) := t2
              refine stepY ((wanted_of 7 false 38 _ rfl rfl t38).trans rfl) ?_
              go_simp
              exact hK _ _ jE rfl (fun _ _ _ h => h)
            · refine stepL_of ?_
              rintro F a w1 jE ⟨h8, t39, h7, t38, -⟩ - K hK
              have h8 : (F 8) = .pointer (some ⟨g, 0, none⟩) := h8
              rw [h8] at t39
              clear h8
              have h7 : (F 7) = .bool false := h7
              rw [h7] at t38
              clear h7
              refine stepY ((wanted_of 7 false 38 _ rfl rfl t38).trans rfl) ?_
              have c := (jE.blk BT (by simp)).cell
              go_simp
              exact hK _ _ jE rfl (fun _ _ _ h => h)
            · refine stepL_of ?_
              rintro F a w1 jE ⟨h9, t40, h7, t38, -⟩ - K hK
              have h9 : (F 9) = .slice t.na t.nl t.nc := h9
              rw [h9] at t40
              clear h9
              have h7 : (F 7) = .bool false := h7
              rw [h7] at t38
              clear h7
              refine stepY ((wanted_of 7 false 38 _ rfl rfl t38).trans rfl) ?_
              go_simp
              exact hK _ _ jE rfl (fun _ _ _ h => h)
            · refine stepL_of ?_
              rintro F a w1 jE ⟨h10, t41, h7, t38, -⟩ - K hK
              have h10 : (F 10) = .int .i64 ((t.nl : Nat) : Int) := h10
              rw [h10] at t41
              clear h10
              have h7 : (F 7) = .bool false := h7
              rw [h7] at t38
              clear h7
              refine stepY ((wanted_of 7 false 38 _ rfl rfl t38).trans rfl) ?_
              have e60 : decide (((t.nl : Nat) : Int) ≤ 60) = true := by simp; omega
              go_simp
              exact hK _ _ jE rfl (fun _ _ _ h => h)
            · refine stepL_of ?_
              rintro F a w1 jE ⟨h11, t42, h7, t38, -⟩ - K hK
              have h11 : (F 11) = .bool true := h11
              rw [h11] at t42
              clear h11
              have h7 : (F 7) = .bool false := h7
              rw [h7] at t38
              clear h7
              refine stepY ((wanted_of 7 false 38 _ rfl rfl t38).trans rfl) ?_
              go_simp
              exact hK _ _ jE rfl (fun _ _ _ h => h)
            · refine stepL_of ?_
              rintro F a w1 jE ⟨h12, t43, -⟩ ⟨t2, -⟩ K hK
              have h12 : (F 12) = .bool true := h12
              rw [h12] at t43
              clear h12
              have t2 : a.tmps[2]? = some (.pointer (some ⟨g, 0, none⟩)) := t2
              refine stepY ((wanted_of 12 true 43 _ rfl rfl t43).trans rfl) ?_
              have c := (jE.blk BT (by simp)).cell
              refine wp_load_blk 25 _ rfl g (eval_tmp t2) 25 t.cs _ (jE.blk BT (by simp)) Try.underlying25 rfl (info_tree _) ?_
              exact hK _ _ jE rfl (fun _ _ _ h => h)
            · refine stepL_of ?_
              rintro F a w1 jE ⟨h12, t43, -⟩ ⟨t5, -⟩ K hK
              have h12 : (F 12) = .bool true := h12
              rw [h12] at t43
              clear h12
              have t5 : a.tmps[5]? = some (.int .i64 x) := t5
              refine stepY ((wanted_of 12 true 43 _ rfl rfl t43).trans rfl) ?_
              go_simp
              exact hK _ _ jE rfl (fun _ _ _ h => h)
            · refine stepL_of ?_
              rintro F a w1 jE ⟨h13, t44, h14, t45, h12, t43, -⟩ - K hK
              have h13 : (F 13) = (.agg t.cs) := h13
              rw [h13] at t44
              clear h13
              have h14 : (F 14) = .int .i64 x := h14
              rw [h14] at t45
              clear h14
              have h12 : (F 12) = .bool true := h12
              rw [h12] at t43
              clear h12
              refine stepY ((wanted_of 12 true 43 _ rfl rfl t43).trans rfl) ?_
              go_simp
              with_reducible refine (unhide (cI _ _ (hN.ext (E1.trans (jE.ext (Ext.refl _) (by simp)))))).mono ?_
              rintro e w2 ⟨⟨v', rfl, hv⟩, hx⟩
              exact hK _ _ (jE.trans hx) hv (by intro jq hj uq h; have hj : jq ∈ [12, 16, 17, 7] := hj; simp only [List.mem_cons, List.not_mem_nil, or_false] at hj; rcases hj with rfl | rfl | rfl | rfl; exact h; exact h; exact h; exact h)
            · refine stepL_of ?_
              rintro F a w1 jE ⟨h12, t43, -⟩ ⟨t2, -⟩ K hK
              have h12 : (F 12) = .bool true := h12
              rw [h12] at t43
              clear h12
              have t2 : a.tmps[2]? = some (.pointer (some ⟨g, 0, none⟩)) := t2
              refine stepY ((wanted_of 12 true 43 _ rfl rfl t43).trans rfl) ?_
              have c := (jE.blk BT (by simp)).cell
              refine wp_load_blk 25 _ rfl g (eval_tmp t2) 25 t.cs _ (jE.blk BT (by simp)) Try.underlying25 rfl (info_tree _) ?_
              exact hK _ _ jE rfl (fun _ _ _ h => h)
            · refine stepL_of ?_
              rintro F a w1 jE ⟨h12, t43, -⟩ ⟨t5, -⟩ K hK
              have h12 : (F 12) = .bool true := h12
              rw [h12] at t43
              clear h12
              have t5 : a.tmps[5]? = some (.int .i64 x) := t5
              refine stepY ((wanted_of 12 true 43 _ rfl rfl t43).trans rfl) ?_
              go_simp
              exact hK _ _ jE rfl (fun _ _ _ h => h)
            · refine stepL_of ?_
              rintro F a w1 jE ⟨h16, t47, h17, t48, h12, t43, -⟩ - K hK
              have h16 : (F 16) = (.agg t.cs) := h16
              rw [h16] at t47
              clear h16
              have h17 : (F 17) = .int .i64 x := h17
              rw [h17] at t48
              clear h17
              have h12 : (F 12) = .bool true := h12
              rw [h12] at t43
              clear h12
              refine stepY ((wanted_of 12 true 43 _ rfl rfl t43).trans rfl) ?_
              go_simp
              with_reducible refine (unhide (cI2 _ _ (hN.ext (E1.trans (jE.ext (Ext.refl _) (by simp)))))).mono ?_
              rintro e w2 ⟨⟨v', rfl, hv⟩, hx⟩
              exact hK _ _ (jE.trans hx) hv (by intro jq hj uq h; have hj : jq ∈ [15, 12, 7] := hj; simp only [List.mem_cons, List.not_mem_nil, or_false] at hj; rcases hj with rfl | rfl | rfl; exact (have h : SlAt w1 uq (insN ns x) := h; h.ext hx); exact h; exact h)
            · refine stepL_of ?_
              rintro F a w1 jE ⟨h15, t46, h18, t49, h12, t43, -⟩ - K hK
              have h15 : SlAt w1 (F 15) (insN ns x) := h15
              have h18 : SlAt w1 (F 18) (insN ns x) := h18
              have h12 : (F 12) = .bool true := h12
              rw [h12] at t43
              clear h12
              refine stepY ((wanted_of 12 true 43 _ rfl rfl t43).trans rfl) ?_
              go_simp
              with_reducible refine (unhide (cS3 x _ _ _ h15 h18)).mono ?_
              rintro e w2 ⟨rfl, hx⟩
              exact hK _ _ (jE.trans hx) (rfl) (by intro jq hj uq h; have hj : jq ∈ [12, 7] := hj; simp only [List.mem_cons, List.not_mem_nil, or_false] at hj; rcases hj with rfl | rfl; exact h; exact h)
            · refine stepL_of ?_
              rintro F a w1 jE ⟨h19, t50, h12, t43, -⟩ - K hK
              have h19 : (F 19) = .bool true := h19
              rw [h19] at t50
              clear h19
              have h12 : (F 12) = .bool true := h12
              rw [h12] at t43
              clear h12
              refine stepY ((wanted_of 12 true 43 _ rfl rfl t43).trans rfl) ?_
              go_simp
              exact hK _ _ jE rfl (fun _ _ _ h => h)
            · refine stepL_of ?_
              rintro F a w1 jE ⟨h12, t43, h20, t51, h7, t38, -⟩ - K hK
              have h12 : (F 12) = .bool true := h12
              rw [h12] at t43
              clear h12
              have h20 : (F 20) = .bool false := h20
              rw [h20] at t51
              clear h20
              have h7 : (F 7) = .bool false := h7
              rw [h7] at t38
              clear h7
              refine stepY ((wanted_of 7 false 38 _ rfl rfl t38).trans rfl) ?_
              go_simp
              exact hK _ _ jE rfl (fun _ _ _ h => h)
            · refine stepL_plain rfl ?_
              rintro F a w1 jE ⟨h7, t38, h21, t52, -⟩ - K hK
              have h7 : (F 7) = .bool false := h7
              rw [h7] at t38
              clear h7
              have h21 : (F 21) = .bool false := h21
              rw [h21] at t52
              clear h21
              go_simp
              exact hK _ _ jE rfl (fun _ _ _ h => h)
          · rintro F w9 jE ⟨h22, -⟩
            have h22 : (F 22) = .bool false := h22
            have hx := jE.ext (Ext.refl _) (by simp)
            replace E1 := E1.trans hx
            replace BT := BT.ext hx
            clear jE hx
            simp only [putL, Act.put, Nat.reduceAdd, Nat.zero_add, List.setIfInBounds_toArray, List.set_cons_succ, List.set_cons_zero]
            rw [h22]
            clear h22
            have c1 := BT.cell
            have l1 := BT.lt
            go_wp2_with fail
            go_roundw
            case rel => exact ⟨x + 1, by go_num, by omega, by omega, E1, BT⟩
            case measure => simp [intOf]; omega
        · refine wp_region_lin (by kernel_rfl) (fun w' => (ExtX wr w' [])) (fun ii vv ww => match ii with | 0 => vv = (.agg t.cs) | 1 => vv = .int .i64 x | 2 => vv = .int .i64 (overI ns x) | 3 => vv = (.agg t.cs) | 4 => vv = .int .i64 x | 5 => vv = .int .i64 (overI ns x) | 6 => vv = .bool false | 7 => vv = .bool false | 8 => vv = .pointer (some ⟨g, 0, none⟩) | 9 => vv = .slice t.na t.nl t.nc | 10 => vv = .int .i64 ((t.nl : Nat) : Int) | 11 => vv = .bool false | 12 => vv = .bool false | 13 => vv = undef | 14 => vv = undef | 15 => vv = undef | 16 => vv = undef | 17 => vv = undef | 18 => vv = undef | 19 => vv = undef | 20 => vv = undef | 21 => vv = .bool false | 22 => vv = .bool false | _ => True) (fun ii => match ii with | 2 => [(0, 31), (1, 32)] | 5 => [(3, 34), (4, 35)] | 6 => [(2, 33), (5, 36)] | 7 => [(6, 37)] | 8 => [(7, 38)] | 9 => [(8, 39), (7, 38)] | 10 => [(9, 40), (7, 38)] | 11 => [(10, 41), (7, 38)] | 12 => [(11, 42), (7, 38)] | 13 => [(12, 43)] | 14 => [(12, 43)] | 15 => [(13, 44), (14, 45), (12, 43)] | 16 => [(12, 43)] | 17 => [(12, 43)] | 18 => [(16, 47), (17, 48), (12, 43)] | 19 => [(15, 46), (18, 49), (12, 43)] | 20 => [(19, 50), (12, 43)] | 21 => [(12, 43), (20, 51), (7, 38)] | 22 => [(7, 38), (21, 52)] | _ => []) (fun ii => match ii with | 0 => [2] | 1 => [5] | 3 => [2] | 4 => [5] | 8 => [2] | 13 => [2] | 14 => [5] | 16 => [2] | 17 => [5] | _ => []) (fun ii => match ii with | 0 => [1, 3, 4] | 1 => [0, 3, 4] | 2 => [3, 4] | 3 => [0, 1, 4, 2] | 4 => [0, 1, 3, 2] | 5 => [2] | 8 => [7] | 9 => [7] | 10 => [7] | 11 => [7] | 12 => [7] | 13 => [12, 14, 16, 17, 7] | 14 => [12, 13, 16, 17, 7] | 15 => [12, 16, 17, 7] | 16 => [12, 13, 14, 17, 15, 7] | 17 => [12, 13, 14, 16, 15, 7] | 18 => [15, 12, 7] | 19 => [12, 7] | 20 => [12, 7] | 21 => [7] | _ => []) [22] [0, 0, 3, 0, 0, 31, 63, 127, 255, 511, 1023, 2047, 4095, 8191, 8191, 32767, 8191, 8191, 262143, 524287, 1048575, 2097151, 4194303] 73 rfl (by kernel_rfl) (ExtX.start _ _) ?_ ?_
          · rename_i hcont; clear hcont
            refine ⟨?_, ?_, ?_, ?_, ?_, ?_, ?_, ?_, ?_, ?_, ?_, ?_, ?_, ?_, ?_, ?_, ?_, ?_, ?_, ?_, ?_, ?_, ?_, trivial⟩
            · refine stepL_plain rfl ?_
              rintro F a w1 jE - ⟨t2, -⟩ K hK
              have t2 : a.tmps[2]? = some (.pointer (some ⟨g, 0, none⟩)) := t2
              have c := (jE.blk BT (by simp)).cell
              refine wp_load_blk 25 _ rfl g (eval_tmp t2) 25 t.cs _ (jE.blk BT (by simp)) Try.underlying25 rfl (info_tree _) ?_
              exact hK _ _ jE rfl (fun _ _ _ h => h)
            · refine stepL_plain rfl ?_
              rintro F a w1 jE - ⟨t5, -⟩ K hK
              have t5 : a.tmps[5]? = some (.int .i64 x) := t5
              go_simp
              exact hK _ _ jE rfl (fun _ _ _ h => h)
            · refine stepL_plain rfl ?_
              rintro F a w1 jE ⟨h0, t31, h1, t32, -⟩ - K hK
              have h0 : (F 0) = (.agg t.cs) := h0
              rw [h0] at t31
              clear h0
              have h1 : (F 1) = .int .i64 x := h1
              rw [h1] at t32
              clear h1
              go_simp
              with_reducible refine (unhide (cV _ _ (hN.ext (E1.trans (jE.ext (Ext.refl _) (by simp)))))).mono ?_
              rintro e w2 ⟨rfl, hx⟩
              exact hK _ _ (jE.trans hx) (rfl) (by intro jq hj uq h; have hj : jq ∈ [3, 4] := hj; simp only [List.mem_cons, List.not_mem_nil, or_false] at hj; rcases hj with rfl | rfl; exact h; exact h)
            · refine stepL_plain rfl ?_
              rintro F a w1 jE - ⟨t2, -⟩ K hK
              have t2 : a.tmps[2]? = some (.pointer (some ⟨g, 0, none⟩)) := t2
              have c := (jE.blk BT (by simp)).cell
              refine wp_load_blk 25 _ rfl g (eval_tmp t2) 25 t.cs _ (jE.blk BT (by simp)) Try.underlying25 rfl (info_tree _) ?_
              exact hK _ _ jE rfl (fun _ _ _ h => h)
            · refine stepL_plain rfl ?_
              rintro F a w1 jE - ⟨t5, -⟩ K hK
              have t5 : a.tmps[5]? = some (.int .i64 x) := t5
              go_simp
              exact hK _ _ jE rfl (fun _ _ _ h => h)
            · refine stepL_plain rfl ?_
              rintro F a w1 jE ⟨h3, t34, h4, t35, -⟩ - K hK
              have h3 : (F 3) = (.agg t.cs) := h3
              rw [h3] at t34
              clear h3
              have h4 : (F 4) = .int .i64 x := h4
              rw [h4] at t35
              clear h4
              go_simp
              with_reducible refine (unhide (cV2 _ _ (hN.ext (E1.trans (jE.ext (Ext.refl _) (by simp)))))).mono ?_
              rintro e w2 ⟨rfl, hx⟩
              exact hK _ _ (jE.trans hx) (rfl) (by intro jq hj uq h; have hj : jq ∈ [2] := hj; simp only [List.mem_singleton] at hj; subst hj; exact h)
            · refine stepL_plain rfl ?_
              rintro F a w1 jE ⟨h2, t33, h5, t36, -⟩ - K hK
              have h2 : (F 2) = .int .i64 (overI ns x) := h2
              rw [h2] at t33
              clear h2
              have h5 : (F 5) = .int .i64 (overI ns x) := h5
              rw [h5] at t36
              clear h5
              go_simp
              exact hK _ _ jE rfl (fun _ _ _ h => h)
            · refine stepL_plain rfl ?_
              rintro F a w1 jE ⟨h6, t37, -⟩ - K hK
              have h6 : (F 6) = .bool false := h6
              rw [h6] at t37
              clear h6
              go_simp
              exact hK _ _ jE rfl (fun _ _ _ h => h)
            · refine stepL_of ?_
              rintro F a w1 jE ⟨h7, t38, -⟩ ⟨t2, -⟩ K hK
              have h7 : (F 7) = .bool false := h7
              rw [h7] at t38
              clear h7
              have t2 : a.tmps[2]? = some (.pointer (some ⟨g, 0, none⟩)) := t2
              refine stepY ((wanted_of 7 false 38 _ rfl rfl t38).trans rfl) ?_
              go_simp
              exact hK _ _ jE rfl (fun _ _ _ h => h)
            · refine stepL_of ?_
              rintro F a w1 jE ⟨h8, t39, h7, t38, -⟩ - K hK
              have h8 : (F 8) = .pointer (some ⟨g, 0, none⟩) := h8
              rw [h8] at t39
              clear h8
              have h7 : (F 7) = .bool false := h7
              rw [h7] at t38
              clear h7
              refine stepY ((wanted_of 7 false 38 _ rfl rfl t38).trans rfl) ?_
              have c := (jE.blk BT (by simp)).cell
              go_simp
              exact hK _ _ jE rfl (fun _ _ _ h => h)
            · refine stepL_of ?_
              rintro F a w1 jE ⟨h9, t40, h7, t38, -⟩ - K hK
              have h9 : (F 9) = .slice t.na t.nl t.nc := h9
              rw [h9] at t40
              clear h9
              have h7 : (F 7) = .bool false := h7
              rw [h7] at t38
              clear h7
              refine stepY ((wanted_of 7 false 38 _ rfl rfl t38).trans rfl) ?_
              go_simp
              exact hK _ _ jE rfl (fun _ _ _ h => h)
            · refine stepL_of ?_
              rintro F a w1 jE ⟨h10, t41, h7, t38, -⟩ - K hK
              have h10 : (F 10) = .int .i64 ((t.nl : Nat) : Int) := h10
              rw [h10] at t41
              clear h10
              have h7 : (F 7) = .bool false := h7
              rw [h7] at t38
              clear h7
              refine stepY ((wanted_of 7 false 38 _ rfl rfl t38).trans rfl) ?_
              have e60 : decide (((t.nl : Nat) : Int) ≤ 60) = false := by simp; omega
              go_simp
              exact hK _ _ jE rfl (fun _ _ _ h => h)
            · refine stepL_of ?_
              rintro F a w1 jE ⟨h11, t42, h7, t38, -⟩ - K hK
              have h11 : (F 11) = .bool false := h11
              rw [h11] at t42
              clear h11
              have h7 : (F 7) = .bool false := h7
              rw [h7] at t38
              clear h7
              refine stepY ((wanted_of 7 false 38 _ rfl rfl t38).trans rfl) ?_
              go_simp
              exact hK _ _ jE rfl (fun _ _ _ h => h)
            · refine stepL_of ?_
              rintro F a w1 jE ⟨h12, t43, -⟩ ⟨t2, -⟩ K hK
              have h12 : (F 12) = .bool false := h12
              rw [h12] at t43
              clear h12
              have t2 : a.tmps[2]? = some (.pointer (some ⟨g, 0, none⟩)) := t2
              exact stepN ((wanted_of 12 true 43 _ rfl rfl t43).trans rfl) (hK undef _ jE rfl (fun _ _ _ h => h))
            · refine stepL_of ?_
              rintro F a w1 jE ⟨h12, t43, -⟩ ⟨t5, -⟩ K hK
              have h12 : (F 12) = .bool false := h12
              rw [h12] at t43
              clear h12
              have t5 : a.tmps[5]? = some (.int .i64 x) := t5
              exact stepN ((wanted_of 12 true 43 _ rfl rfl t43).trans rfl) (hK undef _ jE rfl (fun _ _ _ h => h))
            · refine stepL_of ?_
              rintro F a w1 jE ⟨h13, t44, h14, t45, h12, t43, -⟩ - K hK
              have h13 : (F 13) = undef := h13
              rw [h13] at t44
              clear h13
              have h14 : (F 14) = undef := h14
              rw [h14] at t45
              clear h14
              have h12 : (F 12) = .bool false := h12
              rw [h12] at t43
              clear h12
              exact stepN ((wanted_of 12 true 43 _ rfl rfl t43).trans rfl) (hK undef _ jE rfl (fun _ _ _ h => h))
            · refine stepL_of ?_
              rintro F a w1 jE ⟨h12, t43, -⟩ ⟨t2, -⟩ K hK
              have h12 : (F 12) = .bool false := h12
              rw [h12] at t43
              clear h12
              have t2 : a.tmps[2]? = some (.pointer (some ⟨g, 0, none⟩)) := t2
              exact stepN ((wanted_of 12 true 43 _ rfl rfl t43).trans rfl) (hK undef _ jE rfl (fun _ _ _ h => h))
            · refine stepL_of ?_
              rintro F a w1 jE ⟨h12, t43, -⟩ ⟨t5, -⟩ K hK
              have h12 : (F 12) = .bool false := h12
              rw [h12] at t43
              clear h12
              have t5 : a.tmps[5]? = some (.int .i64 x) := t5
              exact stepN ((wanted_of 12 true 43 _ rfl rfl t43).trans rfl) (hK undef _ jE rfl (fun _ _ _ h => h))
            · refine stepL_of ?_
              rintro F a w1 jE ⟨h16, t47, h17, t48, h12, t43, -⟩ - K hK
              have h16 : (F 16) = undef := h16
              rw [h16] at t47
              clear h16
              have h17 : (F 17) = undef := h17
              rw [h17] at t48
              clear h17
              have h12 : (F 12) = .bool false := h12
              rw [h12] at t43
              clear h12
              exact stepN ((wanted_of 12 true 43 _ rfl rfl t43).trans rfl) (hK undef _ jE rfl (fun _ _ _ h => h))
            · refine stepL_of ?_
              rintro F a w1 jE ⟨h15, t46, h18, t49, h12, t43, -⟩ - K hK
              have h15 : (F 15) = undef := h15
              rw [h15] at t46
              clear h15
              have h18 : (F 18) = undef := h18
              rw [h18] at t49
              clear h18
              have h12 : (F 12) = .bool false := h12
              rw [h12] at t43
              clear h12
              exact stepN ((wanted_of 12 true 43 _ rfl rfl t43).trans rfl) (hK undef _ jE rfl (fun _ _ _ h => h))
            · refine stepL_of ?_
              rintro F a w1 jE ⟨h19, t50, h12, t43, -⟩ - K hK
              have h19 : (F 19) = undef := h19
              rw [h19] at t50
              clear h19
              have h12 : (F 12) = .bool false := h12
              rw [h12] at t43
              clear h12
              exact stepN ((wanted_of 12 true 43 _ rfl rfl t43).trans rfl) (hK undef _ jE rfl (fun _ _ _ h => h))
            · refine stepL_of ?_
              rintro F a w1 jE ⟨h12, t43, h20, t51, h7, t38, -⟩ - K hK
              have h12 : (F 12) = .bool false := h12
              rw [h12] at t43
              clear h12
              have h20 : (F 20) = undef := h20
              rw [h20] at t51
              clear h20
              have h7 : (F 7) = .bool false := h7
              rw [h7] at t38
              clear h7
              refine stepY ((wanted_of 7 false 38 _ rfl rfl t38).trans rfl) ?_
              go_simp
              exact hK _ _ jE rfl (fun _ _ _ h => h)
            · refine stepL_plain rfl ?_
              rintro F a w1 jE ⟨h7, t38, h21, t52, -⟩ - K hK
              have h7 : (F 7) = .bool false := h7
              rw [h7] at t38
              clear h7
              have h21 : (F 21) = .bool false := h21
              rw [h21] at t52
              clear h21
              go_simp
              exact hK _ _ jE rfl (fun _ _ _ h => h)
          · rintro F w9 jE ⟨h22, -⟩
            have h22 : (F 22) = .bool false := h22
            have hx := jE.ext (Ext.refl _) (by simp)
            replace E1 := E1.trans hx
            replace BT := BT.ext hx
            clear jE hx
            simp only [putL, Act.put, Nat.reduceAdd, Nat.zero_add, List.setIfInBounds_toArray, List.set_cons_succ, List.set_cons_zero]
            rw [h22]
            clear h22
            have c1 := BT.cell
            have l1 := BT.lt
            go_wp2_with fail
            go_roundw
            case rel => exact ⟨x + 1, by go_num, by omega, by omega, E1, BT⟩
            case measure => simp [intOf]; omega
      · have c1 := BT.cell
        go_upto_region 10 with fail
        clear c1 l1
        refine wp_region_lin (by kernel_rfl) (fun w' => (ExtX wr w' [])) (fun ii vv ww => match ii with | 0 => vv = (.agg t.cs) | 1 => vv = .int .i64 more | 2 => vv = .int .i64 (overI ns more) | 3 => vv = (.agg t.cs) | 4 => vv = .int .i64 more | 5 => vv = .int .i64 (overI ns more) | 6 => vv = .bool true | 7 => vv = .bool true | 8 => vv = (.agg t.cs) | 9 => vv = .int .i64 more | 10 => SlAt ww vv (insN ns more) | 11 => vv = (.agg t.cs) | 12 => vv = .int .i64 more | 13 => SlAt ww vv (insN ns more) | 14 => vv = .bool true | 15 => vv = .bool true | 16 => vv = .bool true | 17 => vv = .bool true | 18 => vv = .bool true | 19 => vv = .bool true | _ => True) (fun ii => match ii with | 2 => [(0, 54), (1, 55)] | 5 => [(3, 57), (4, 58)] | 6 => [(2, 56), (5, 59)] | 7 => [(6, 60)] | 8 => [(7, 61)] | 9 => [(7, 61)] | 10 => [(8, 62), (9, 63), (7, 61)] | 11 => [(7, 61)] | 12 => [(7, 61)] | 13 => [(11, 65), (12, 66), (7, 61)] | 14 => [(10, 64), (13, 67), (7, 61)] | 15 => [(7, 61), (14, 68)] | 16 => [(15, 69)] | 17 => [(16, 70)] | 18 => [(16, 70), (17, 71)] | 19 => [(18, 72)] | _ => []) (fun ii => match ii with | 0 => [2] | 1 => [1] | 3 => [2] | 4 => [1] | 8 => [2] | 9 => [1] | 11 => [2] | 12 => [1] | _ => []) (fun ii => match ii with | 0 => [1, 3, 4] | 1 => [0, 3, 4] | 2 => [3, 4] | 3 => [0, 1, 4, 2] | 4 => [0, 1, 3, 2] | 5 => [2] | 8 => [7, 9, 11, 12] | 9 => [7, 8, 11, 12] | 10 => [7, 11, 12] | 11 => [7, 8, 9, 12, 10] | 12 => [7, 8, 9, 11, 10] | 13 => [10, 7] | 14 => [7] | 17 => [16] | _ => []) [19] [0, 0, 3, 0, 0, 31, 63, 127, 255, 255, 1023, 255, 255, 8191, 16383, 32767, 65535, 131071, 262143, 524287] 73 rfl (by kernel_rfl) (ExtX.start _ _) ?_ ?_
        · rename_i hcont; clear hcont
          refine ⟨?_, ?_, ?_, ?_, ?_, ?_, ?_, ?_, ?_, ?_, ?_, ?_, ?_, ?_, ?_, ?_, ?_, ?_, ?_, ?_, trivial⟩
          · refine stepL_plain rfl ?_
            rintro F a w1 jE - ⟨t2, -⟩ K hK
            have t2 : a.tmps[2]? = some (.pointer (some ⟨g, 0, none⟩)) := t2
            have c := (jE.blk BT (by simp)).cell
            refine wp_load_blk 25 _ rfl g (eval_tmp t2) 25 t.cs _ (jE.blk BT (by simp)) Try.underlying25 rfl (info_tree _) ?_
            exact hK _ _ jE rfl (fun _ _ _ h => h)
          · refine stepL_plain rfl ?_
            rintro F a w1 jE - ⟨t1, -⟩ K hK
            have t1 : a.tmps[1]? = some (.int .i64 more) := t1
            go_simp
            exact hK _ _ jE rfl (fun _ _ _ h => h)
          · refine stepL_plain rfl ?_
            rintro F a w1 jE ⟨h0, t54, h1, t55, -⟩ - K hK
            have h0 : (F 0) = (.agg t.cs) := h0
            rw [h0] at t54
            clear h0
            have h1 : (F 1) = .int .i64 more := h1
            rw [h1] at t55
            clear h1
            go_simp
            with_reducible refine (unhide (cV _ _ (hN.ext (E1.trans (jE.ext (Ext.refl _) (by simp)))))).mono ?_
            rintro e w2 ⟨rfl, hx⟩
            exact hK _ _ (jE.trans hx) (rfl) (by intro jq hj uq h; have hj : jq ∈ [3, 4] := hj; simp only [List.mem_cons, List.not_mem_nil, or_false] at hj; rcases hj with rfl | rfl; exact h; exact h)
          · refine stepL_plain rfl ?_
            rintro F a w1 jE - ⟨t2, -⟩ K hK
            have t2 : a.tmps[2]? = some (.pointer (some ⟨g, 0, none⟩)) := t2
            have c := (jE.blk BT (by simp)).cell
            refine wp_load_blk 25 _ rfl g (eval_tmp t2) 25 t.cs _ (jE.blk BT (by simp)) Try.underlying25 rfl (info_tree _) ?_
            exact hK _ _ jE rfl (fun _ _ _ h => h)
          · refine stepL_plain rfl ?_
            rintro F a w1 jE - ⟨t1, -⟩ K hK
            have t1 : a.tmps[1]? = some (.int .i64 more) := t1
            go_simp
            exact hK _ _ jE rfl (fun _ _ _ h => h)
          · refine stepL_plain rfl ?_
            rintro F a w1 jE ⟨h3, t57, h4, t58, -⟩ - K hK
            have h3 : (F 3) = (.agg t.cs) := h3
            rw [h3] at t57
            clear h3
            have h4 : (F 4) = .int .i64 more := h4
            rw [h4] at t58
            clear h4
            go_simp
            with_reducible refine (unhide (cV2 _ _ (hN.ext (E1.trans (jE.ext (Ext.refl _) (by simp)))))).mono ?_
            rintro e w2 ⟨rfl, hx⟩
            exact hK _ _ (jE.trans hx) (rfl) (by intro jq hj uq h; have hj : jq ∈ [2] := hj; simp only [List.mem_singleton] at hj; subst hj; exact h)
          · refine stepL_plain rfl ?_
            rintro F a w1 jE ⟨h2, t56, h5, t59, -⟩ - K hK
            have h2 : (F 2) = .int .i64 (overI ns more) := h2
            rw [h2] at t56
            clear h2
            have h5 : (F 5) = .int .i64 (overI ns more) := h5
            rw [h5] at t59
            clear h5
            go_simp
            exact hK _ _ jE rfl (fun _ _ _ h => h)
          · refine stepL_plain rfl ?_
            rintro F a w1 jE ⟨h6, t60, -⟩ - K hK
            have h6 : (F 6) = .bool true := h6
            rw [h6] at t60
            clear h6
            go_simp
            exact hK _ _ jE rfl (fun _ _ _ h => h)
          · refine stepL_of ?_
            rintro F a w1 jE ⟨h7, t61, -⟩ ⟨t2, -⟩ K hK
            have h7 : (F 7) = .bool true := h7
            rw [h7] at t61
            clear h7
            have t2 : a.tmps[2]? = some (.pointer (some ⟨g, 0, none⟩)) := t2
            refine stepY ((wanted_of 7 true 61 _ rfl rfl t61).trans rfl) ?_
            have c := (jE.blk BT (by simp)).cell
            refine wp_load_blk 25 _ rfl g (eval_tmp t2) 25 t.cs _ (jE.blk BT (by simp)) Try.underlying25 rfl (info_tree _) ?_
            exact hK _ _ jE rfl (fun _ _ _ h => h)
          · refine stepL_of ?_
            rintro F a w1 jE ⟨h7, t61, -⟩ ⟨t1, -⟩ K hK
            have h7 : (F 7) = .bool true := h7
            rw [h7] at t61
            clear h7
            have t1 : a.tmps[1]? = some (.int .i64 more) := t1
            refine stepY ((wanted_of 7 true 61 _ rfl rfl t61).trans rfl) ?_
            go_simp
            exact hK _ _ jE rfl (fun _ _ _ h => h)
          · refine stepL_of ?_
            rintro F a w1 jE ⟨h8, t62, h9, t63, h7, t61, -⟩ - K hK
            have h8 : (F 8) = (.agg t.cs) := h8
            rw [h8] at t62
            clear h8
            have h9 : (F 9) = .int .i64 more := h9
            rw [h9] at t63
            clear h9
            have h7 : (F 7) = .bool true := h7
            rw [h7] at t61
            clear h7
            refine stepY ((wanted_of 7 true 61 _ rfl rfl t61).trans rfl) ?_
            go_simp
            with_reducible refine (unhide (cI _ _ (hN.ext (E1.trans (jE.ext (Ext.refl _) (by simp)))))).mono ?_
            rintro e w2 ⟨⟨v', rfl, hv⟩, hx⟩
            exact hK _ _ (jE.trans hx) hv (by intro jq hj uq h; have hj : jq ∈ [7, 11, 12] := hj; simp only [List.mem_cons, List.not_mem_nil, or_false] at hj; rcases hj with rfl | rfl | rfl; exact h; exact h; exact h)
          · refine stepL_of ?_
            rintro F a w1 jE ⟨h7, t61, -⟩ ⟨t2, -⟩ K hK
            have h7 : (F 7) = .bool true := h7
            rw [h7] at t61
            clear h7
            have t2 : a.tmps[2]? = some (.pointer (some ⟨g, 0, none⟩)) := t2
            refine stepY ((wanted_of 7 true 61 _ rfl rfl t61).trans rfl) ?_
            have c := (jE.blk BT (by simp)).cell
            refine wp_load_blk 25 _ rfl g (eval_tmp t2) 25 t.cs _ (jE.blk BT (by simp)) Try.underlying25 rfl (info_tree _) ?_
            exact hK _ _ jE rfl (fun _ _ _ h => h)
          · refine stepL_of ?_
            rintro F a w1 jE ⟨h7, t61, -⟩ ⟨t1, -⟩ K hK
            have h7 : (F 7) = .bool true := h7
            rw [h7] at t61
            clear h7
            have t1 : a.tmps[1]? = some (.int .i64 more) := t1
            refine stepY ((wanted_of 7 true 61 _ rfl rfl t61).trans rfl) ?_
            go_simp
            exact hK _ _ jE rfl (fun _ _ _ h => h)
          · refine stepL_of ?_
            rintro F a w1 jE ⟨h11, t65, h12, t66, h7, t61, -⟩ - K hK
            have h11 : (F 11) = (.agg t.cs) := h11
            rw [h11] at t65
            clear h11
            have h12 : (F 12) = .int .i64 more := h12
            rw [h12] at t66
            clear h12
            have h7 : (F 7) = .bool true := h7
            rw [h7] at t61
            clear h7
            refine stepY ((wanted_of 7 true 61 _ rfl rfl t61).trans rfl) ?_
            go_simp
            with_reducible refine (unhide (cI2 _ _ (hN.ext (E1.trans (jE.ext (Ext.refl _) (by simp)))))).mono ?_
            rintro e w2 ⟨⟨v', rfl, hv⟩, hx⟩
            exact hK _ _ (jE.trans hx) hv (by intro jq hj uq h; have hj : jq ∈ [10, 7] := hj; simp only [List.mem_cons, List.not_mem_nil, or_false] at hj; rcases hj with rfl | rfl; exact (have h : SlAt w1 uq (insN ns more) := h; h.ext hx); exact h)
          · refine stepL_of ?_
            rintro F a w1 jE ⟨h10, t64, h13, t67, h7, t61, -⟩ - K hK
            have h10 : SlAt w1 (F 10) (insN ns more) := h10
            have h13 : SlAt w1 (F 13) (insN ns more) := h13
            have h7 : (F 7) = .bool true := h7
            rw [h7] at t61
            clear h7
            refine stepY ((wanted_of 7 true 61 _ rfl rfl t61).trans rfl) ?_
            go_simp
            with_reducible refine (unhide (cS3 more _ _ _ h10 h13)).mono ?_
            rintro e w2 ⟨rfl, hx⟩
            exact hK _ _ (jE.trans hx) (rfl) (by intro jq hj uq h; have hj : jq ∈ [7] := hj; simp only [List.mem_singleton] at hj; subst hj; exact h)
          · refine stepL_plain rfl ?_
            rintro F a w1 jE ⟨h7, t61, h14, t68, -⟩ - K hK
            have h7 : (F 7) = .bool true := h7
            rw [h7] at t61
            clear h7
            have h14 : (F 14) = .bool true := h14
            rw [h14] at t68
            clear h14
            go_simp
            exact hK _ _ jE rfl (fun _ _ _ h => h)
          · refine stepL_plain rfl ?_
            rintro F a w1 jE ⟨h15, t69, -⟩ - K hK
            have h15 : (F 15) = .bool true := h15
            rw [h15] at t69
            clear h15
            go_simp
            exact hK _ _ jE rfl (fun _ _ _ h => h)
          · refine stepL_of ?_
            rintro F a w1 jE ⟨h16, t70, -⟩ - K hK
            have h16 : (F 16) = .bool true := h16
            rw [h16] at t70
            clear h16
            refine stepY ((wanted_of 16 true 70 _ rfl rfl t70).trans rfl) ?_
            go_simp
            with_reducible refine (unhide (cW _)).mono ?_
            rintro e w2 ⟨rfl, hx⟩
            exact hK _ _ (jE.trans hx) (rfl) (by intro jq hj uq h; have hj : jq ∈ [16] := hj; simp only [List.mem_singleton] at hj; subst hj; exact h)
          · refine stepL_plain rfl ?_
            rintro F a w1 jE ⟨h16, t70, h17, t71, -⟩ - K hK
            have h16 : (F 16) = .bool true := h16
            rw [h16] at t70
            clear h16
            have h17 : (F 17) = .bool true := h17
            rw [h17] at t71
            clear h17
            go_simp
            exact hK _ _ jE rfl (fun _ _ _ h => h)
          · refine stepL_plain rfl ?_
            rintro F a w1 jE ⟨h18, t72, -⟩ - K hK
            have h18 : (F 18) = .bool true := h18
            rw [h18] at t72
            clear h18
            go_simp
            exact hK _ _ jE rfl (fun _ _ _ h => h)
        · rintro F w9 jE ⟨h19, -⟩
          have h19 : (F 19) = .bool true := h19
          have hx := jE.ext (Ext.refl _) (by simp)
          replace E1 := E1.trans hx
          replace BT := BT.ext hx
          clear jE hx
          simp only [putL, Act.put, Nat.reduceAdd, Nat.zero_add, List.setIfInBounds_toArray, List.set_cons_succ, List.set_cons_zero]
          rw [h19]
          clear h19
          go_wp2_with fail
          go_ret
          exact ⟨rfl, E1⟩
end
end Go.Proofs.Ytnolbmfjgfojhaa
