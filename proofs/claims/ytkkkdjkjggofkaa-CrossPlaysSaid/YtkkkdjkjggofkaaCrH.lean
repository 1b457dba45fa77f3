/- Layer 20: the closure that cuts (walk). -/
import Derived.Test.YtkkkdjkjggofkaaCrG
import Derived.Test.YtkkkdjkjggofkaaLinN
namespace Go.Proofs.Ytkkkdjkjggofkaa
open Go.RowKit
def boolL (l : List Bool) : List Value := l.map Value.bool
theorem boolL_get {l : List Bool} {i : Nat} {x : Bool} (h : l[i]? = some x) : (boolL l)[i]? = some (.bool x) := by rw [boolL, List.getElem?_map, h]; rfl
theorem boolL_set (l : List Bool) (i : Nat) (x : Bool) : (boolL l).toArray.setIfInBounds i (.bool x) = (boolL (l.set i x)).toArray := by
  rw [List.setIfInBounds_toArray, boolL, boolL, List.map_set]
theorem Blk.bool {w : World} {g : Nat} {l : List Bool} (h : Blk w g 4 (boolL l).toArray) {i : Nat} {x : Bool} (hx : l[i]? = some x) : w.cell? ⟨g, i, none⟩ = some (.bool x) := by
  rw [h.cell, List.getElem?_toArray]; exact boolL_get hx
/-- what the closure hands back, and does -/
def CutOut (gB k : Nat) (x : Int) (m : Bool) (bl : List Bool) (w : World) (e : Ending) (w' : World) : Prop := e = .returned (.int .i64 (cutV x)) ∧ Blk w' gB 4 (boolL (bl.set k (m || cutB x))).toArray ∧ ExtX w w' [gB]
set_option maxRecDepth 100000 in
set_option maxHeartbeats 4000000 in
theorem cut_cl (gb gk gB n k : Nat) (x : Int) (m : Bool) (bl : List Bool) (w : World) (h1 : Blk w gb 39 #[.slice (some ⟨gB, 0, none⟩) n n]) (h2 : Blk w gk 3 #[.int .i64 (k : Int)]) (h3 : Blk w gB 4 (boolL (bl.set k m)).toArray)
    (hl : bl.length = n) (hk : k < n) :
    Calls Try.prog 24 #[.int .i64 x, .pointer (some ⟨gb, 0, none⟩), .pointer (some ⟨gk, 0, none⟩)] w (CutOut gB k x m bl w) := by
  have hkI : (0 : Int) ≤ (k : Int) ∧ (k : Int) < (n : Int) := by omega
  have hset : (bl.set k m)[k]? = some m := by rw [List.getElem?_set_self (by omega)]
  have cB := h3.bool hset
  have fB := h3.frozen k
  have lB := h3.lt
  have HSS := hide (fun (v : Bool) => show (bl.set k m).set k v = bl.set k v from List.set_set ..)
  obtain ⟨ov, hov⟩ : ∃ ov, cutB x = ov := ⟨_, rfl⟩
  have HOV := hide hov
  clear hset hov hl
  go_enter Try.func24, Try.ntmps24
  go_wp2_with fail
  with_reducible refine (au_cut x _).mono ?_
  rintro e w1 ⟨rfl, rfl⟩
  rw [unhide HOV]
  obtain ⟨cv, hcv⟩ : ∃ cv, cutV x = cv := ⟨_, rfl⟩
  rw [hcv]
  have HCV := hide hcv
  clear hcv
  go_upto_region 2 with fail
  cases m <;> cases ov
  · refine wp_region_linV (by kernel_rfl) (fun w' => (ExtX w w' [gB])) (fun ii vv ww => match ii with | 0 => vv = .slice (some ⟨gB, 0, none⟩) n n | 1 => vv = .int .i64 (k : Int) | 2 => vv = .slice (some ⟨gB, 0, none⟩) n n | 3 => vv = .int .i64 (k : Int) | 4 => vv = .pointer (some ⟨gB, k, none⟩) | 5 => vv = .bool false | 6 => vv = .bool false | 7 => vv = .bool false | 8 => vv = .bool false | 9 => vv = .pointer (some ⟨gB, k, none⟩) | _ => True) (fun ii => match ii with | 4 => [(2, 13), (3, 14)] | 5 => [(4, 15)] | 6 => [(5, 16)] | 7 => [(6, 17)] | 8 => [(6, 17), (7, 18)] | 9 => [(0, 11), (1, 12)] | 10 => [(9, 20), (8, 19)] | _ => []) (fun ii => match ii with | 0 => [1] | 1 => [2] | 2 => [1] | 3 => [2] | 7 => [5] | _ => []) (fun ii => match ii with | 0 => [2, 3, 4, 5, 6, 7, 1, 8] | 1 => [2, 3, 4, 5, 6, 7, 0, 8] | 2 => [3, 0, 1] | 3 => [2, 0, 1] | 4 => [0, 1] | 5 => [0, 1] | 6 => [0, 1] | 7 => [6, 0, 1] | 8 => [0, 1] | 9 => [8] | _ => []) [] [0, 0, 0, 0, 12, 28, 60, 124, 252, 511, 1023] (fun w0q => Ext w w0q) [10] [] (fun FT wT => Blk wT gB 4 (boolL (bl.set k false)).toArray) 10 22 rfl (by kernel_rfl) (by kernel_rfl) (.inl (by kernel_rfl)) ((ExtX.start _ _)) ((Ext.refl _).drew) ?_ ?_
    · rename_i hcont; clear hcont
      refine ⟨?_, ?_, ?_, ?_, ?_, ?_, ?_, ?_, ?_, ?_, ?_, trivial⟩
      · refine stepV_plain rfl ?_
        rintro F a w1 jE - ⟨t1, -⟩ iO K hK
        replace iO := iO (by decide)
        have t1 : a.tmps[1]? = some (.pointer (some ⟨gb, 0, none⟩)) := t1
        have c := (h1.ext iO).cell
        go_simp
        exact hK _ _ jE rfl (fun _ _ _ h => h) (fun _ h => h) (fun he => absurd he (by decide))
      · refine stepV_plain rfl ?_
        rintro F a w1 jE - ⟨t2, -⟩ iO K hK
        replace iO := iO (by decide)
        have t2 : a.tmps[2]? = some (.pointer (some ⟨gk, 0, none⟩)) := t2
        have c := (h2.ext iO).cell
        go_simp
        exact hK _ _ jE rfl (fun _ _ _ h => h) (fun _ h => h) (fun he => absurd he (by decide))
      · refine stepV_plain rfl ?_
        rintro F a w1 jE - ⟨t1, -⟩ iO K hK
        replace iO := iO (by decide)
        have t1 : a.tmps[1]? = some (.pointer (some ⟨gb, 0, none⟩)) := t1
        have c := (h1.ext iO).cell
        go_simp
        exact hK _ _ jE rfl (fun _ _ _ h => h) (fun _ h => h) (fun he => absurd he (by decide))
      · refine stepV_plain rfl ?_
        rintro F a w1 jE - ⟨t2, -⟩ iO K hK
        replace iO := iO (by decide)
        have t2 : a.tmps[2]? = some (.pointer (some ⟨gk, 0, none⟩)) := t2
        have c := (h2.ext iO).cell
        go_simp
        exact hK _ _ jE rfl (fun _ _ _ h => h) (fun _ h => h) (fun he => absurd he (by decide))
      · refine stepV_plain rfl ?_
        rintro F a w1 jE ⟨h2, t13, h3, t14, -⟩ - iO K hK
        replace iO := iO (by decide)
        have h2 : (F 2) = .slice (some ⟨gB, 0, none⟩) n n := h2
        rw [h2] at t13
        clear h2
        have h3 : (F 3) = .int .i64 (k : Int) := h3
        rw [h3] at t14
        clear h3
        go_simp
        exact hK _ _ jE rfl (fun _ _ _ h => h) (fun _ h => h) (fun he => absurd he (by decide))
      · refine stepV_plain rfl ?_
        rintro F a w1 jE ⟨h4, t15, -⟩ - iO K hK
        replace iO := iO (by decide)
        have h4 : (F 4) = .pointer (some ⟨gB, k, none⟩) := h4
        rw [h4] at t15
        clear h4
        have c := (iO.cells.1 gB _ lB).trans cB
        go_simp
        exact hK _ _ jE rfl (fun _ _ _ h => h) (fun _ h => h) (fun he => absurd he (by decide))
      · refine stepV_plain rfl ?_
        rintro F a w1 jE ⟨h5, t16, -⟩ - iO K hK
        replace iO := iO (by decide)
        have h5 : (F 5) = .bool false := h5
        rw [h5] at t16
        clear h5
        go_simp
        exact hK _ _ jE rfl (fun _ _ _ h => h) (fun _ h => h) (fun he => absurd he (by decide))
      · refine stepV_at ?_
        rintro F a w1 jE ⟨h6, t17, -⟩ ⟨t5, -⟩ iO K hK
        replace iO := iO (by decide)
        have h6 : (F 6) = .bool false := h6
        rw [h6] at t17
        clear h6
        have t5 : a.tmps[5]? = some (.bool false) := t5
        refine stepY ((wanted_of 6 false 17 _ rfl rfl t17).trans rfl) ?_
        go_simp
        exact hK _ _ jE rfl (fun _ _ _ h => h) (fun _ h => h) (fun he => absurd he (by decide))
      · refine stepV_plain rfl ?_
        rintro F a w1 jE ⟨h6, t17, h7, t18, -⟩ - iO K hK
        replace iO := iO (by decide)
        have h6 : (F 6) = .bool false := h6
        rw [h6] at t17
        clear h6
        have h7 : (F 7) = .bool false := h7
        rw [h7] at t18
        clear h7
        go_simp
        exact hK _ _ jE rfl (fun _ _ _ h => h) (fun _ h => h) (fun he => absurd he (by decide))
      · refine stepV_plain rfl ?_
        rintro F a w1 jE ⟨h0, t11, h1, t12, -⟩ - iO K hK
        replace iO := iO (by decide)
        have h0 : (F 0) = .slice (some ⟨gB, 0, none⟩) n n := h0
        rw [h0] at t11
        clear h0
        have h1 : (F 1) = .int .i64 (k : Int) := h1
        rw [h1] at t12
        clear h1
        go_simp
        exact hK _ _ jE rfl (fun _ _ _ h => h) (fun _ h => h) (fun he => absurd he (by decide))
      · refine stepV_plain rfl ?_
        rintro F a w1 jE ⟨h9, t20, h8, t19, -⟩ - iO K hK
        replace iO := iO (by decide)
        have h9 : (F 9) = .pointer (some ⟨gB, k, none⟩) := h9
        rw [h9] at t20
        clear h9
        have h8 : (F 8) = .bool false := h8
        rw [h8] at t19
        clear h8
        have c := (iO.cells.1 gB _ lB).trans cB
        have f := (iO.cells.2 gB _ lB).trans fB
        have B3 := (h3.ext iO).set_ k (.bool false)
        rw [boolL_set, unhide HSS] at B3
        go_simp
        exact hK undef _ (jE.set (by simp) _) trivial (fun _ hj _ _ => (List.not_mem_nil hj).elim) (fun h => (h (by simp)).elim) (fun _ => B3)
    · rintro F w9 jE - hT
      have B3 := hT (by decide)
      simp only [putL, Act.put, Nat.reduceAdd, Nat.zero_add, List.setIfInBounds_toArray, List.set_cons_succ, List.set_cons_zero]
      clear hT h3 cB fB lB
      go_wp2_with fail
      go_ret
      exact ⟨by rw [unhide HCV]; rfl, by rw [unhide HOV]; exact B3, jE⟩
  · refine wp_region_linV (by kernel_rfl) (fun w' => (ExtX w w' [gB])) (fun ii vv ww => match ii with | 0 => vv = .slice (some ⟨gB, 0, none⟩) n n | 1 => vv = .int .i64 (k : Int) | 2 => vv = .slice (some ⟨gB, 0, none⟩) n n | 3 => vv = .int .i64 (k : Int) | 4 => vv = .pointer (some ⟨gB, k, none⟩) | 5 => vv = .bool false | 6 => vv = .bool false | 7 => vv = .bool true | 8 => vv = .bool true | 9 => vv = .pointer (some ⟨gB, k, none⟩) | _ => True) (fun ii => match ii with | 4 => [(2, 13), (3, 14)] | 5 => [(4, 15)] | 6 => [(5, 16)] | 7 => [(6, 17)] | 8 => [(6, 17), (7, 18)] | 9 => [(0, 11), (1, 12)] | 10 => [(9, 20), (8, 19)] | _ => []) (fun ii => match ii with | 0 => [1] | 1 => [2] | 2 => [1] | 3 => [2] | 7 => [5] | _ => []) (fun ii => match ii with | 0 => [2, 3, 4, 5, 6, 7, 1, 8] | 1 => [2, 3, 4, 5, 6, 7, 0, 8] | 2 => [3, 0, 1] | 3 => [2, 0, 1] | 4 => [0, 1] | 5 => [0, 1] | 6 => [0, 1] | 7 => [6, 0, 1] | 8 => [0, 1] | 9 => [8] | _ => []) [] [0, 0, 0, 0, 12, 28, 60, 124, 252, 511, 1023] (fun w0q => Ext w w0q) [10] [] (fun FT wT => Blk wT gB 4 (boolL (bl.set k true)).toArray) 10 22 rfl (by kernel_rfl) (by kernel_rfl) (.inl (by kernel_rfl)) ((ExtX.start _ _)) ((Ext.refl _).drew) ?_ ?_
    · rename_i hcont; clear hcont
      refine ⟨?_, ?_, ?_, ?_, ?_, ?_, ?_, ?_, ?_, ?_, ?_, trivial⟩
      · refine stepV_plain rfl ?_
        rintro F a w1 jE - ⟨t1, -⟩ iO K hK
        replace iO := iO (by decide)
        have t1 : a.tmps[1]? = some (.pointer (some ⟨gb, 0, none⟩)) := t1
        have c := (h1.ext iO).cell
        go_simp
        exact hK _ _ jE rfl (fun _ _ _ h => h) (fun _ h => h) (fun he => absurd he (by decide))
      · refine stepV_plain rfl ?_
        rintro F a w1 jE - ⟨t2, -⟩ iO K hK
        replace iO := iO (by decide)
        have t2 : a.tmps[2]? = some (.pointer (some ⟨gk, 0, none⟩)) := t2
        have c := (h2.ext iO).cell
        go_simp
        exact hK _ _ jE rfl (fun _ _ _ h => h) (fun _ h => h) (fun he => absurd he (by decide))
      · refine stepV_plain rfl ?_
        rintro F a w1 jE - ⟨t1, -⟩ iO K hK
        replace iO := iO (by decide)
        have t1 : a.tmps[1]? = some (.pointer (some ⟨gb, 0, none⟩)) := t1
        have c := (h1.ext iO).cell
        go_simp
        exact hK _ _ jE rfl (fun _ _ _ h => h) (fun _ h => h) (fun he => absurd he (by decide))
      · refine stepV_plain rfl ?_
        rintro F a w1 jE - ⟨t2, -⟩ iO K hK
        replace iO := iO (by decide)
        have t2 : a.tmps[2]? = some (.pointer (some ⟨gk, 0, none⟩)) := t2
        have c := (h2.ext iO).cell
        go_simp
        exact hK _ _ jE rfl (fun _ _ _ h => h) (fun _ h => h) (fun he => absurd he (by decide))
      · refine stepV_plain rfl ?_
        rintro F a w1 jE ⟨h2, t13, h3, t14, -⟩ - iO K hK
        replace iO := iO (by decide)
        have h2 : (F 2) = .slice (some ⟨gB, 0, none⟩) n n := h2
        rw [h2] at t13
        clear h2
        have h3 : (F 3) = .int .i64 (k : Int) := h3
        rw [h3] at t14
        clear h3
        go_simp
        exact hK _ _ jE rfl (fun _ _ _ h => h) (fun _ h => h) (fun he => absurd he (by decide))
      · refine stepV_plain rfl ?_
        rintro F a w1 jE ⟨h4, t15, -⟩ - iO K hK
        replace iO := iO (by decide)
        have h4 : (F 4) = .pointer (some ⟨gB, k, none⟩) := h4
        rw [h4] at t15
        clear h4
        have c := (iO.cells.1 gB _ lB).trans cB
        go_simp
        exact hK _ _ jE rfl (fun _ _ _ h => h) (fun _ h => h) (fun he => absurd he (by decide))
      · refine stepV_plain rfl ?_
        rintro F a w1 jE ⟨h5, t16, -⟩ - iO K hK
        replace iO := iO (by decide)
        have h5 : (F 5) = .bool false := h5
        rw [h5] at t16
        clear h5
        go_simp
        exact hK _ _ jE rfl (fun _ _ _ h => h) (fun _ h => h) (fun he => absurd he (by decide))
      · refine stepV_at ?_
        rintro F a w1 jE ⟨h6, t17, -⟩ ⟨t5, -⟩ iO K hK
        replace iO := iO (by decide)
        have h6 : (F 6) = .bool false := h6
        rw [h6] at t17
        clear h6
        have t5 : a.tmps[5]? = some (.bool true) := t5
        refine stepY ((wanted_of 6 false 17 _ rfl rfl t17).trans rfl) ?_
        go_simp
        exact hK _ _ jE rfl (fun _ _ _ h => h) (fun _ h => h) (fun he => absurd he (by decide))
      · refine stepV_plain rfl ?_
        rintro F a w1 jE ⟨h6, t17, h7, t18, -⟩ - iO K hK
        replace iO := iO (by decide)
        have h6 : (F 6) = .bool false := h6
        rw [h6] at t17
        clear h6
        have h7 : (F 7) = .bool true := h7
        rw [h7] at t18
        clear h7
        go_simp
        exact hK _ _ jE rfl (fun _ _ _ h => h) (fun _ h => h) (fun he => absurd he (by decide))
      · refine stepV_plain rfl ?_
        rintro F a w1 jE ⟨h0, t11, h1, t12, -⟩ - iO K hK
        replace iO := iO (by decide)
        have h0 : (F 0) = .slice (some ⟨gB, 0, none⟩) n n := h0
        rw [h0] at t11
        clear h0
        have h1 : (F 1) = .int .i64 (k : Int) := h1
        rw [h1] at t12
        clear h1
        go_simp
        exact hK _ _ jE rfl (fun _ _ _ h => h) (fun _ h => h) (fun he => absurd he (by decide))
      · refine stepV_plain rfl ?_
        rintro F a w1 jE ⟨h9, t20, h8, t19, -⟩ - iO K hK
        replace iO := iO (by decide)
        have h9 : (F 9) = .pointer (some ⟨gB, k, none⟩) := h9
        rw [h9] at t20
        clear h9
        have h8 : (F 8) = .bool true := h8
        rw [h8] at t19
        clear h8
        have c := (iO.cells.1 gB _ lB).trans cB
        have f := (iO.cells.2 gB _ lB).trans fB
        have B3 := (h3.ext iO).set_ k (.bool true)
        rw [boolL_set, unhide HSS] at B3
        go_simp
        exact hK undef _ (jE.set (by simp) _) trivial (fun _ hj _ _ => (List.not_mem_nil hj).elim) (fun h => (h (by simp)).elim) (fun _ => B3)
    · rintro F w9 jE - hT
      have B3 := hT (by decide)
      simp only [putL, Act.put, Nat.reduceAdd, Nat.zero_add, List.setIfInBounds_toArray, List.set_cons_succ, List.set_cons_zero]
      clear hT h3 cB fB lB
      go_wp2_with fail
      go_ret
      exact ⟨by rw [unhide HCV]; rfl, by rw [unhide HOV]; exact B3, jE⟩
  · refine wp_region_linV (by kernel_rfl) (fun w' => (ExtX w w' [gB])) (fun ii vv ww => match ii with | 0 => vv = .slice (some ⟨gB, 0, none⟩) n n | 1 => vv = .int .i64 (k : Int) | 2 => vv = .slice (some ⟨gB, 0, none⟩) n n | 3 => vv = .int .i64 (k : Int) | 4 => vv = .pointer (some ⟨gB, k, none⟩) | 5 => vv = .bool true | 6 => vv = .bool true | 7 => vv = undef | 8 => vv = .bool true | 9 => vv = .pointer (some ⟨gB, k, none⟩) | _ => True) (fun ii => match ii with | 4 => [(2, 13), (3, 14)] | 5 => [(4, 15)] | 6 => [(5, 16)] | 7 => [(6, 17)] | 8 => [(6, 17), (7, 18)] | 9 => [(0, 11), (1, 12)] | 10 => [(9, 20), (8, 19)] | _ => []) (fun ii => match ii with | 0 => [1] | 1 => [2] | 2 => [1] | 3 => [2] | 7 => [5] | _ => []) (fun ii => match ii with | 0 => [2, 3, 4, 5, 6, 7, 1, 8] | 1 => [2, 3, 4, 5, 6, 7, 0, 8] | 2 => [3, 0, 1] | 3 => [2, 0, 1] | 4 => [0, 1] | 5 => [0, 1] | 6 => [0, 1] | 7 => [6, 0, 1] | 8 => [0, 1] | 9 => [8] | _ => []) [] [0, 0, 0, 0, 12, 28, 60, 124, 252, 511, 1023] (fun w0q => Ext w w0q) [10] [] (fun FT wT => Blk wT gB 4 (boolL (bl.set k true)).toArray) 10 22 rfl (by kernel_rfl) (by kernel_rfl) (.inl (by kernel_rfl)) ((ExtX.start _ _)) ((Ext.refl _).drew) ?_ ?_
    · rename_i hcont; clear hcont
      refine ⟨?_, ?_, ?_, ?_, ?_, ?_, ?_, ?_, ?_, ?_, ?_, trivial⟩
      · refine stepV_plain rfl ?_
        rintro F a w1 jE - ⟨t1, -⟩ iO K hK
        replace iO := iO (by decide)
        have t1 : a.tmps[1]? = some (.pointer (some ⟨gb, 0, none⟩)) := t1
        have c := (h1.ext iO).cell
        go_simp
        exact hK _ _ jE rfl (fun _ _ _ h => h) (fun _ h => h) (fun he => absurd he (by decide))
      · refine stepV_plain rfl ?_
        rintro F a w1 jE - ⟨t2, -⟩ iO K hK
        replace iO := iO (by decide)
        have t2 : a.tmps[2]? = some (.pointer (some ⟨gk, 0, none⟩)) := t2
        have c := (h2.ext iO).cell
        go_simp
        exact hK _ _ jE rfl (fun _ _ _ h => h) (fun _ h => h) (fun he => absurd he (by decide))
      · refine stepV_plain rfl ?_
        rintro F a w1 jE - ⟨t1, -⟩ iO K hK
        replace iO := iO (by decide)
        have t1 : a.tmps[1]? = some (.pointer (some ⟨gb, 0, none⟩)) := t1
        have c := (h1.ext iO).cell
        go_simp
        exact hK _ _ jE rfl (fun _ _ _ h => h) (fun _ h => h) (fun he => absurd he (by decide))
      · refine stepV_plain rfl ?_
        rintro F a w1 jE - ⟨t2, -⟩ iO K hK
        replace iO := iO (by decide)
        have t2 : a.tmps[2]? = some (.pointer (some ⟨gk, 0, none⟩)) := t2
        have c := (h2.ext iO).cell
        go_simp
        exact hK _ _ jE rfl (fun _ _ _ h => h) (fun _ h => h) (fun he => absurd he (by decide))
      · refine stepV_plain rfl ?_
        rintro F a w1 jE ⟨h2, t13, h3, t14, -⟩ - iO K hK
        replace iO := iO (by decide)
        have h2 : (F 2) = .slice (some ⟨gB, 0, none⟩) n n := h2
        rw [h2] at t13
        clear h2
        have h3 : (F 3) = .int .i64 (k : Int) := h3
        rw [h3] at t14
        clear h3
        go_simp
        exact hK _ _ jE rfl (fun _ _ _ h => h) (fun _ h => h) (fun he => absurd he (by decide))
      · refine stepV_plain rfl ?_
        rintro F a w1 jE ⟨h4, t15, -⟩ - iO K hK
        replace iO := iO (by decide)
        have h4 : (F 4) = .pointer (some ⟨gB, k, none⟩) := h4
        rw [h4] at t15
        clear h4
        have c := (iO.cells.1 gB _ lB).trans cB
        go_simp
        exact hK _ _ jE rfl (fun _ _ _ h => h) (fun _ h => h) (fun he => absurd he (by decide))
      · refine stepV_plain rfl ?_
        rintro F a w1 jE ⟨h5, t16, -⟩ - iO K hK
        replace iO := iO (by decide)
        have h5 : (F 5) = .bool true := h5
        rw [h5] at t16
        clear h5
        go_simp
        exact hK _ _ jE rfl (fun _ _ _ h => h) (fun _ h => h) (fun he => absurd he (by decide))
      · refine stepV_at ?_
        rintro F a w1 jE ⟨h6, t17, -⟩ ⟨t5, -⟩ iO K hK
        replace iO := iO (by decide)
        have h6 : (F 6) = .bool true := h6
        rw [h6] at t17
        clear h6
        have t5 : a.tmps[5]? = some (.bool false) := t5
        exact stepN ((wanted_of 6 false 17 _ rfl rfl t17).trans rfl) (hK undef _ jE rfl (fun _ _ _ h => h) (fun _ h => h) (fun he => absurd he (by decide)))
      · refine stepV_plain rfl ?_
        rintro F a w1 jE ⟨h6, t17, h7, t18, -⟩ - iO K hK
        replace iO := iO (by decide)
        have h6 : (F 6) = .bool true := h6
        rw [h6] at t17
        clear h6
        have h7 : (F 7) = undef := h7
        rw [h7] at t18
        clear h7
        go_simp
        exact hK _ _ jE rfl (fun _ _ _ h => h) (fun _ h => h) (fun he => absurd he (by decide))
      · refine stepV_plain rfl ?_
        rintro F a w1 jE ⟨h0, t11, h1, t12, -⟩ - iO K hK
        replace iO := iO (by decide)
        have h0 : (F 0) = .slice (some ⟨gB, 0, none⟩) n n := h0
        rw [h0] at t11
        clear h0
        have h1 : (F 1) = .int .i64 (k : Int) := h1
        rw [h1] at t12
        clear h1
        go_simp
        exact hK _ _ jE rfl (fun _ _ _ h => h) (fun _ h => h) (fun he => absurd he (by decide))
      · refine stepV_plain rfl ?_
        rintro F a w1 jE ⟨h9, t20, h8, t19, -⟩ - iO K hK
        replace iO := iO (by decide)
        have h9 : (F 9) = .pointer (some ⟨gB, k, none⟩) := h9
        rw [h9] at t20
        clear h9
        have h8 : (F 8) = .bool true := h8
        rw [h8] at t19
        clear h8
        have c := (iO.cells.1 gB _ lB).trans cB
        have f := (iO.cells.2 gB _ lB).trans fB
        have B3 := (h3.ext iO).set_ k (.bool true)
        rw [boolL_set, unhide HSS] at B3
        go_simp
        exact hK undef _ (jE.set (by simp) _) trivial (fun _ hj _ _ => (List.not_mem_nil hj).elim) (fun h => (h (by simp)).elim) (fun _ => B3)
    · rintro F w9 jE - hT
      have B3 := hT (by decide)
      simp only [putL, Act.put, Nat.reduceAdd, Nat.zero_add, List.setIfInBounds_toArray, List.set_cons_succ, List.set_cons_zero]
      clear hT h3 cB fB lB
      go_wp2_with fail
      go_ret
      exact ⟨by rw [unhide HCV]; rfl, by rw [unhide HOV]; exact B3, jE⟩
  · refine wp_region_linV (by kernel_rfl) (fun w' => (ExtX w w' [gB])) (fun ii vv ww => match ii with | 0 => vv = .slice (some ⟨gB, 0, none⟩) n n | 1 => vv = .int .i64 (k : Int) | 2 => vv = .slice (some ⟨gB, 0, none⟩) n n | 3 => vv = .int .i64 (k : Int) | 4 => vv = .pointer (some ⟨gB, k, none⟩) | 5 => vv = .bool true | 6 => vv = .bool true | 7 => vv = undef | 8 => vv = .bool true | 9 => vv = .pointer (some ⟨gB, k, none⟩) | _ => True) (fun ii => match ii with | 4 => [(2, 13), (3, 14)] | 5 => [(4, 15)] | 6 => [(5, 16)] | 7 => [(6, 17)] | 8 => [(6, 17), (7, 18)] | 9 => [(0, 11), (1, 12)] | 10 => [(9, 20), (8, 19)] | _ => []) (fun ii => match ii with | 0 => [1] | 1 => [2] | 2 => [1] | 3 => [2] | 7 => [5] | _ => []) (fun ii => match ii with | 0 => [2, 3, 4, 5, 6, 7, 1, 8] | 1 => [2, 3, 4, 5, 6, 7, 0, 8] | 2 => [3, 0, 1] | 3 => [2, 0, 1] | 4 => [0, 1] | 5 => [0, 1] | 6 => [0, 1] | 7 => [6, 0, 1] | 8 => [0, 1] | 9 => [8] | _ => []) [] [0, 0, 0, 0, 12, 28, 60, 124, 252, 511, 1023] (fun w0q => Ext w w0q) [10] [] (fun FT wT => Blk wT gB 4 (boolL (bl.set k true)).toArray) 10 22 rfl (by kernel_rfl) (by kernel_rfl) (.inl (by kernel_rfl)) ((ExtX.start _ _)) ((Ext.refl _).drew) ?_ ?_
    · rename_i hcont; clear hcont
      refine ⟨?_, ?_, ?_, ?_, ?_, ?_, ?_, ?_, ?_, ?_, ?_, trivial⟩
      · refine stepV_plain rfl ?_
        rintro F a w1 jE - ⟨t1, -⟩ iO K hK
        replace iO := iO (by decide)
        have t1 : a.tmps[1]? = some (.pointer (some ⟨gb, 0, none⟩)) := t1
        have c := (h1.ext iO).cell
        go_simp
        exact hK _ _ jE rfl (fun _ _ _ h => h) (fun _ h => h) (fun he => absurd he (by decide))
      · refine stepV_plain rfl ?_
        rintro F a w1 jE - ⟨t2, -⟩ iO K hK
        replace iO := iO (by decide)
        have t2 : a.tmps[2]? = some (.pointer (some ⟨gk, 0, none⟩)) := t2
        have c := (h2.ext iO).cell
        go_simp
        exact hK _ _ jE rfl (fun _ _ _ h => h) (fun _ h => h) (fun he => absurd he (by decide))
      · refine stepV_plain rfl ?_
        rintro F a w1 jE - ⟨t1, -⟩ iO K hK
        replace iO := iO (by decide)
        have t1 : a.tmps[1]? = some (.pointer (some ⟨gb, 0, none⟩)) := t1
        have c := (h1.ext iO).cell
        go_simp
        exact hK _ _ jE rfl (fun _ _ _ h => h) (fun _ h => h) (fun he => absurd he (by decide))
      · refine stepV_plain rfl ?_
        rintro F a w1 jE - ⟨t2, -⟩ iO K hK
        replace iO := iO (by decide)
        have t2 : a.tmps[2]? = some (.pointer (some ⟨gk, 0, none⟩)) := t2
        have c := (h2.ext iO).cell
        go_simp
        exact hK _ _ jE rfl (fun _ _ _ h => h) (fun _ h => h) (fun he => absurd he (by decide))
      · refine stepV_plain rfl ?_
        rintro F a w1 jE ⟨h2, t13, h3, t14, -⟩ - iO K hK
        replace iO := iO (by decide)
        have h2 : (F 2) = .slice (some ⟨gB, 0, none⟩) n n := h2
        rw [h2] at t13
        clear h2
        have h3 : (F 3) = .int .i64 (k : Int) := h3
        rw [h3] at t14
        clear h3
        go_simp
        exact hK _ _ jE rfl (fun _ _ _ h => h) (fun _ h => h) (fun he => absurd he (by decide))
      · refine stepV_plain rfl ?_
        rintro F a w1 jE ⟨h4, t15, -⟩ - iO K hK
        replace iO := iO (by decide)
        have h4 : (F 4) = .pointer (some ⟨gB, k, none⟩) := h4
        rw [h4] at t15
        clear h4
        have c := (iO.cells.1 gB _ lB).trans cB
        go_simp
        exact hK _ _ jE rfl (fun _ _ _ h => h) (fun _ h => h) (fun he => absurd he (by decide))
      · refine stepV_plain rfl ?_
        rintro F a w1 jE ⟨h5, t16, -⟩ - iO K hK
        replace iO := iO (by decide)
        have h5 : (F 5) = .bool true := h5
        rw [h5] at t16
        clear h5
        go_simp
        exact hK _ _ jE rfl (fun _ _ _ h => h) (fun _ h => h) (fun he => absurd he (by decide))
      · refine stepV_at ?_
        rintro F a w1 jE ⟨h6, t17, -⟩ ⟨t5, -⟩ iO K hK
        replace iO := iO (by decide)
        have h6 : (F 6) = .bool true := h6
        rw [h6] at t17
        clear h6
        have t5 : a.tmps[5]? = some (.bool true) := t5
        exact stepN ((wanted_of 6 false 17 _ rfl rfl t17).trans rfl) (hK undef _ jE rfl (fun _ _ _ h => h) (fun _ h => h) (fun he => absurd he (by decide)))
      · refine stepV_plain rfl ?_
        rintro F a w1 jE ⟨h6, t17, h7, t18, -⟩ - iO K hK
        replace iO := iO (by decide)
        have h6 : (F 6) = .bool true := h6
        rw [h6] at t17
        clear h6
        have h7 : (F 7) = undef := h7
        rw [h7] at t18
        clear h7
        go_simp
        exact hK _ _ jE rfl (fun _ _ _ h => h) (fun _ h => h) (fun he => absurd he (by decide))
      · refine stepV_plain rfl ?_
        rintro F a w1 jE ⟨h0, t11, h1, t12, -⟩ - iO K hK
        replace iO := iO (by decide)
        have h0 : (F 0) = .slice (some ⟨gB, 0, none⟩) n n := h0
        rw [h0] at t11
        clear h0
        have h1 : (F 1) = .int .i64 (k : Int) := h1
        rw [h1] at t12
        clear h1
        go_simp
        exact hK _ _ jE rfl (fun _ _ _ h => h) (fun _ h => h) (fun he => absurd he (by decide))
      · refine stepV_plain rfl ?_
        rintro F a w1 jE ⟨h9, t20, h8, t19, -⟩ - iO K hK
        replace iO := iO (by decide)
        have h9 : (F 9) = .pointer (some ⟨gB, k, none⟩) := h9
        rw [h9] at t20
        clear h9
        have h8 : (F 8) = .bool true := h8
        rw [h8] at t19
        clear h8
        have c := (iO.cells.1 gB _ lB).trans cB
        have f := (iO.cells.2 gB _ lB).trans fB
        have B3 := (h3.ext iO).set_ k (.bool true)
        rw [boolL_set, unhide HSS] at B3
        go_simp
        exact hK undef _ (jE.set (by simp) _) trivial (fun _ hj _ _ => (List.not_mem_nil hj).elim) (fun h => (h (by simp)).elim) (fun _ => B3)
    · rintro F w9 jE - hT
      have B3 := hT (by decide)
      simp only [putL, Act.put, Nat.reduceAdd, Nat.zero_add, List.setIfInBounds_toArray, List.set_cons_succ, List.set_cons_zero]
      clear hT h3 cB fB lB
      go_wp2_with fail
      go_ret
      exact ⟨by rw [unhide HCV]; rfl, by rw [unhide HOV]; exact B3, jE⟩
end Go.Proofs.Ytkkkdjkjggofkaa
