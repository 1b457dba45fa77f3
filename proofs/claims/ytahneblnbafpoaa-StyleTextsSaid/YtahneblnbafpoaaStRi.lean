/- Styles: the law on which may be (walk). -/
import Derived.Test.YtahneblnbafpoaaStW
import Derived.Test.YtahneblnbafpoaaStE
namespace Go.Proofs.Ytahneblnbafpoaa
open Go.RowKit
@[reducible] def zst : Sty := ⟨0, false, 0, 0, ⟨0, 0⟩, ⟨0, 0⟩, ⟨0, 0⟩, ⟨0, 0⟩, ⟨0, 0⟩, ⟨0, 0⟩, ⟨0, 0⟩, ⟨0, 0⟩, ⟨0, 0⟩, ⟨0, 0⟩, 0, 0, 0, 0, 0, 0, 0, 0, 0, 0, false, 0, 0, 0, 0, 0, ⟨0, 0⟩, none, 0, 0⟩
theorem zero_st : (Try.prog.info? 28).bind (·.zero) = some (.agg zst.cells) := by kernel_rfl
theorem info_stC (s : Sty) (A : Option Addr) (c : Nat) : (Try.prog.info? 28).map (·.size) = some (stC s A c).size := by kernel_rfl
theorem info_u16 : (Try.prog.info? 36).map (fun i => (i.zero, i.size, i.bytes)) = some (some (.int .u16 0), 1, 2) := by kernel_rfl
theorem right_stU (s : Sty) (A : Option Addr) (c : Nat) : rightV (stU s A c) = rightV s := by
  simp only [rightV, boxV, emptyV, mgV_all, wdV_all, hgV_all, zbV_all, zlV_all]
  rfl
theorem u16s_one (us : List Int) : ∀ u ∈ u16s us, u.oneCell' = true := by
  intro u hu
  obtain ⟨x, _, rfl⟩ := List.mem_map.1 hu
  rfl
theorem grown_cellU {w : World} {g i : Nat} (u : Value) : w.grownBy (w.setCell ⟨g, i, none⟩ u) (some g) :=
  ⟨rfl, rfl, rfl, by simp [World.setCell], fun k _ hne => Below.heap_setCell w ⟨g, i, none⟩ u k (by rintro rfl; exact hne rfl)⟩
theorem vast_t (s : Sty) (h : 131072 < s.ul) (w : World) : Calls Try.prog 8 #[.agg s.cells] w fun e w' => e = .returned (.bool true) ∧ Ext w w' := by
  have hI : (131072 : Int) < (s.ul : Int) := by omega
  go_enter Try.func8, Try.ntmps8
  go_upto_region 1 with fail
  have B1 : Blk (w.alloc (.cells s.cells 28)) w.heap.size 28 s.cells := Blk.new _ _ _
  have E1 : Ext w (w.alloc (.cells s.cells 28)) := (Ext.refl _).alloc _
  generalize w.alloc (.cells s.cells 28) = w1 at *
  have d1 := B1.cell
  have l1 := B1.lt
  go_wp2_with fail
  go_ret
  exact ⟨rfl, E1⟩
theorem vast_f (s : Sty) (h : s.ul ≤ 131072) (w : World) : Calls Try.prog 8 #[.agg s.cells] w fun e w' => e = .returned (.bool false) ∧ Ext w w' := by
  have hI : ¬ ((131072 : Int) < (s.ul : Int)) := by omega
  go_enter Try.func8, Try.ntmps8
  go_upto_region 1 with fail
  have B1 : Blk (w.alloc (.cells s.cells 28)) w.heap.size 28 s.cells := Blk.new _ _ _
  have E1 : Ext w (w.alloc (.cells s.cells 28)) := (Ext.refl _).alloc _
  generalize w.alloc (.cells s.cells 28) = w1 at *
  have d1 := B1.cell
  have l1 := B1.lt
  go_wp2_with fail
  go_ret
  exact ⟨rfl, E1⟩
set_option maxRecDepth 100000 in
set_option maxHeartbeats 8000000 in
theorem rights_vast (s : Sty) (h : 131072 < s.ul) (w : World) :
    Calls Try.prog 3 #[.agg s.cells] w fun e w' => e = .returned (.bool true) ∧ Ext w w' := by
  have cV := fun w => hide (vast_t s h w)
  go_enter Try.func3, Try.ntmps3
  go_upto_region 1 with fail
  have B1 : Blk (w.alloc (.cells s.cells 28)) w.heap.size 28 s.cells := Blk.new _ _ _
  have E1 : Ext w (w.alloc (.cells s.cells 28)) := (Ext.refl _).alloc _
  generalize w.alloc (.cells s.cells 28) = w1 at *
  generalize hg : w.heap.size = g at *
  have HG := hide hg
  clear hg
  go_step
  refine wpList_load_blk rfl 28 _ rfl g rfl 28 s.cells _ B1 Try.underlying28 rfl (info_style s) ?_
  simp only [Act.put, List.setIfInBounds_toArray, List.set_cons_succ, List.set_cons_zero]
  go_wp2_with fail
  refine (unhide (cV _)).mono ?_
  rintro e w2 ⟨rfl, hx⟩
  replace B1 := B1.ext hx
  replace E1 := E1.trans hx
  clear hx
  go_wp2_with fail
  refine (works_any _).mono ?_
  rintro e w3 ⟨rfl, hx⟩
  go_wp2_with fail
  go_ret
  exact ⟨rfl, E1.trans hx⟩
set_option maxRecDepth 100000 in
set_option maxHeartbeats 8000000 in
theorem rights_few (s : Sty) (us : List Int) (hu : s.ul ≤ 131072) (w : World) (hR0 : Rd w 1 s.ua s.ul (u16s us)) :
    Calls Try.prog 3 #[.agg s.cells] w fun e w' => e = .returned (.bool true) ∧ Ext w w' := by
  have cV := fun w => hide (vast_f s hu w)
  go_enter Try.func3, Try.ntmps3
  go_upto_region 1 with fail
  have B1 : Blk (w.alloc (.cells s.cells 28)) w.heap.size 28 s.cells := Blk.new _ _ _
  have E1 : Ext w (w.alloc (.cells s.cells 28)) := (Ext.refl _).alloc _
  generalize w.alloc (.cells s.cells 28) = w1 at *
  generalize hg : w.heap.size = g at *
  have HG := hide hg
  clear hg
  go_step
  refine wpList_load_blk rfl 28 _ rfl g rfl 28 s.cells _ B1 Try.underlying28 rfl (info_style s) ?_
  simp only [Act.put, List.setIfInBounds_toArray, List.set_cons_succ, List.set_cons_zero]
  go_wp2_with fail
  refine (unhide (cV _)).mono ?_
  rintro e w2 ⟨rfl, hx⟩
  replace B1 := B1.ext hx
  replace E1 := E1.trans hx
  clear hx
  have RU := hR0.ext E1
  go_upto_region 3 with fail
  go_step
  refine wpList_load_blk rfl 28 _ rfl g rfl 28 s.cells _ B1 Try.underlying28 rfl (info_style s) ?_
  simp only [Act.put, List.setIfInBounds_toArray, List.set_cons_succ, List.set_cons_zero]
  refine wpList_alloc_var rfl 28 rfl zst.cells zero_st ?_
  intro wa Ba Ea za
  simp only [Act.put, List.setIfInBounds_toArray, List.set_cons_succ, List.set_cons_zero]
  refine wpList_store_blk rfl 28 _ _ rfl w2.heap.size rfl s.cells rfl 28 zst.cells Ba (info_style s) rfl (by kernel_rfl) ?_
  intro w3 B2 hgr zs
  simp only [Act.put]
  have l1 := B1.lt
  have E23 : Ext w2 w3 := Ext.grown Ea hgr (fun q e => by injection e with e; omega)
  have E3 := E1.trans E23
  have B13 := B1.ext E23
  have RU3 := RU.ext E23
  have hgn0 : w.heap.size ≤ w2.heap.size := E1.size
  clear Ba Ea hgr E1 B1 RU E23
  have hne : w2.heap.size ≠ g := by omega
  have hz3 : w2.heap.size < w3.heap.size := by omega
  clear zs za l1
  generalize w2.heap.size = gn at *
  have d1 := B13.cell
  have l1 := B13.lt
  obtain ⟨i0, hi0, hz0, hz1, hz2⟩ := info_parts info_u16
  have HI := hide (And.intro hi0 (And.intro hz0 (And.intro hz1 hz2)))
  clear hi0 hz0 hz1 hz2
  have O4 : (w3.alloc (.cells #[] 36)).ownsRow w3.heap.size 36 1 (.slice (some ⟨w3.heap.size, 0, none⟩) 0 0) 0 [] :=
    World.ownsRow_lit (base := w3.heap.size) (e := 36) (size := 1) w3 #[] 0 (by omega) (by simp [maxLen]) rfl
  go_upto_region 5 with (first
    | (at_builtin
       refine wpList_append_rd rfl (.tmp 8) (.tmp 10) _ rfl w3.heap.size 36 i0 _ 1 2 Try.underlying26 (unhide HI).1 (unhide HI).2.1 (unhide HI).2.2.1 (unhide HI).2.2.2 rfl (by omega) _ 0 [] rfl O4 _ s.ul s.uc (u16s us) rfl (RU3.alloc _) (u16s_one us) (by simp only [maxLen]; omega) (by omega) (by simp) ?_
       intro A4 c4 w4 own4 g4 at4
       simp only [Nat.zero_add, List.nil_append] at own4 ⊢
       have E34 : Ext w3 w4 := Ext.grown ((Ext.refl w3).alloc _) g4 (fun j e => by have := (O4.lt j e).1; omega)
       have B14 := B13.ext E34
       have B24 := B2.ext E34
       have E4 := E3.trans E34
       have d2 := B24.cell
       have l2 := B24.lt
       have f2 := B24.frozen))
  have E5 := E4.set (p := ⟨gn, 42, none⟩) hgn0 (.slice A4 s.ul c4)
  have B15 := B14.far (p := ⟨gn, 42, none⟩) (fun e => hne e.symm) (.slice A4 s.ul c4)
  have B25 := B24.set_ 42 (.slice A4 s.ul c4)
  have RN := Rd.grown (Rd.of_own own4) (grown_cellU (w := w4) (g := gn) (i := 42) (.slice A4 s.ul c4)) (fun b off e => by
    subst e
    have := (own4.lt b rfl).1
    intro e2
    injection e2 with e2
    omega)
  have RU5 := hR0.ext E5
  generalize World.setCell _ _ _ = w5 at *
  replace B25 : Blk w5 gn 28 (stC s A4 c4) := B25
  replace B15 : Blk w5 g 28 (stC s s.ua s.uc) := B15
  clear d1 l1 d2 l2 f2 B14 B24 E34 E4 E3 B13 RU3 O4 own4 g4 at4 hR0 HI
  have hm : s.ul ≤ 1000000 := by omega
  have cP := fun w => hide (pright_any (stU s A4 c4) w)
  have cF := fun w => hide (rright_any s w)
  rw [right_eq, right_stU] at cP
  generalize rightV s = rv at *
  refine wp_region_lin (by kernel_rfl) (fun w' => (ExtX w5 w' [])) (fun ii vv ww => match ii with | 0 => vv = (.agg (stC s A4 c4)) | 1 => vv = .bool rv | 2 => vv = (.agg (stC s s.ua s.uc)) | 3 => vv = .bool rv | 4 => vv = .bool true | 5 => vv = .bool true | 6 => vv = (.agg (stC s A4 c4)) | 7 => vv = (.agg (stC s s.ua s.uc)) | 8 => vv = .bool true | 9 => vv = .bool true | 10 => vv = .bool true | 11 => vv = .bool true | 12 => vv = .bool true | 13 => vv = .bool true | _ => True) (fun ii => match ii with | 1 => [(0, 13)] | 3 => [(2, 15)] | 4 => [(1, 14), (3, 16)] | 5 => [(4, 17)] | 6 => [(5, 18)] | 7 => [(5, 18)] | 8 => [(6, 19), (7, 20), (5, 18)] | 9 => [(5, 18), (8, 21)] | 10 => [(9, 22)] | 11 => [(10, 23)] | 12 => [(10, 23), (11, 24)] | 13 => [(12, 25)] | _ => []) (fun ii => match ii with | 0 => [3] | 2 => [1] | 6 => [3] | 7 => [1] | _ => []) (fun ii => match ii with | 0 => [2] | 1 => [2] | 2 => [0, 1] | 3 => [1] | 6 => [5, 7] | 7 => [5, 6] | 8 => [5] | 11 => [10] | _ => []) [13] [0, 1, 0, 7, 15, 31, 63, 63, 255, 511, 1023, 2047, 4095, 8191] 26 rfl (by kernel_rfl) (ExtX.start _ _) ?_ ?_
  · rename_i hcont; clear hcont
    refine ⟨?_, ?_, ?_, ?_, ?_, ?_, ?_, ?_, ?_, ?_, ?_, ?_, ?_, ?_, trivial⟩
    · refine stepL_plain rfl ?_
      rintro F a w1 jE - ⟨t3, -⟩ K hK
      have t3 : a.tmps[3]? = some (.pointer (some ⟨gn, 0, none⟩)) := t3
      have c := (jE.blk B25 (by simp)).cell
      refine wp_load_blk 28 _ rfl gn (eval_tmp t3) 28 (stC s A4 c4) _ (jE.blk B25 (by simp)) Try.underlying28 rfl (info_stC s A4 c4) ?_
      exact hK _ _ jE rfl (fun _ _ _ h => h)
    · refine stepL_plain rfl ?_
      rintro F a w1 jE ⟨h0, t13, -⟩ - K hK
      have h0 : (F 0) = (.agg (stC s A4 c4)) := h0
      rw [h0] at t13
      clear h0
      go_simp
      with_reducible refine (unhide (cP _)).mono ?_
      rintro e w2 ⟨rfl, hx⟩
      exact hK _ _ (jE.trans hx) (rfl) (by intro jq hj uq h; have hj : jq ∈ [2] := hj; simp only [List.mem_singleton] at hj; subst hj; exact h)
    · refine stepL_plain rfl ?_
      rintro F a w1 jE - ⟨t1, -⟩ K hK
      have t1 : a.tmps[1]? = some (.pointer (some ⟨g, 0, none⟩)) := t1
      have c := (jE.blk B15 (by simp)).cell
      refine wp_load_blk 28 _ rfl g (eval_tmp t1) 28 (stC s s.ua s.uc) _ (jE.blk B15 (by simp)) Try.underlying28 rfl (info_stC s s.ua s.uc) ?_
      exact hK _ _ jE rfl (fun _ _ _ h => h)
    · refine stepL_plain rfl ?_
      rintro F a w1 jE ⟨h2, t15, -⟩ - K hK
      have h2 : (F 2) = (.agg (stC s s.ua s.uc)) := h2
      rw [h2] at t15
      clear h2
      go_simp
      with_reducible refine (unhide (cF _)).mono ?_
      rintro e w2 ⟨rfl, hx⟩
      exact hK _ _ (jE.trans hx) (rfl) (by intro jq hj uq h; have hj : jq ∈ [1] := hj; simp only [List.mem_singleton] at hj; subst hj; exact h)
    · refine stepL_plain rfl ?_
      rintro F a w1 jE ⟨h1, t14, h3, t16, -⟩ - K hK
      have h1 : (F 1) = .bool rv := h1
      rw [h1] at t14
      clear h1
      have h3 : (F 3) = .bool rv := h3
      rw [h3] at t16
      clear h3
      have e1 : (rv == rv) = true := by simp
      go_simp
      exact hK _ _ jE rfl (fun _ _ _ h => h)
    · refine stepL_plain rfl ?_
      rintro F a w1 jE ⟨h4, t17, -⟩ - K hK
      have h4 : (F 4) = .bool true := h4
      rw [h4] at t17
      clear h4
      go_simp
      exact hK _ _ jE rfl (fun _ _ _ h => h)
    · refine stepL_of ?_
      rintro F a w1 jE ⟨h5, t18, -⟩ ⟨t3, -⟩ K hK
      have h5 : (F 5) = .bool true := h5
      rw [h5] at t18
      clear h5
      have t3 : a.tmps[3]? = some (.pointer (some ⟨gn, 0, none⟩)) := t3
      refine stepY ((wanted_of 5 true 18 _ rfl rfl t18).trans rfl) ?_
      have c := (jE.blk B25 (by simp)).cell
      refine wp_load_blk 28 _ rfl gn (eval_tmp t3) 28 (stC s A4 c4) _ (jE.blk B25 (by simp)) Try.underlying28 rfl (info_stC s A4 c4) ?_
      exact hK _ _ jE rfl (fun _ _ _ h => h)
    · refine stepL_of ?_
      rintro F a w1 jE ⟨h5, t18, -⟩ ⟨t1, -⟩ K hK
      have h5 : (F 5) = .bool true := h5
      rw [h5] at t18
      clear h5
      have t1 : a.tmps[1]? = some (.pointer (some ⟨g, 0, none⟩)) := t1
      refine stepY ((wanted_of 5 true 18 _ rfl rfl t18).trans rfl) ?_
      have c := (jE.blk B15 (by simp)).cell
      refine wp_load_blk 28 _ rfl g (eval_tmp t1) 28 (stC s s.ua s.uc) _ (jE.blk B15 (by simp)) Try.underlying28 rfl (info_stC s s.ua s.uc) ?_
      exact hK _ _ jE rfl (fun _ _ _ h => h)
    · refine stepL_of ?_
      rintro F a w1 jE ⟨h6, t19, h7, t20, h5, t18, -⟩ - K hK
      have h6 : (F 6) = (.agg (stC s A4 c4)) := h6
      rw [h6] at t19
      clear h6
      have h7 : (F 7) = (.agg (stC s s.ua s.uc)) := h7
      rw [h7] at t20
      clear h7
      have h5 : (F 5) = .bool true := h5
      rw [h5] at t18
      clear h5
      refine stepY ((wanted_of 5 true 18 _ rfl rfl t18).trans rfl) ?_
      go_simp
      with_reducible refine (same_eq s A4 s.ua c4 s.uc us _ (jE.rd RN (by simp)) (jE.rd RU5 (by simp)) hm).mono ?_
      rintro e w2 ⟨rfl, hx⟩
      exact hK _ _ (jE.trans hx) (rfl) (by intro jq hj uq h; have hj : jq ∈ [5] := hj; simp only [List.mem_singleton] at hj; subst hj; exact h)
    · refine stepL_plain rfl ?_
      rintro F a w1 jE ⟨h5, t18, h8, t21, -⟩ - K hK
      have h5 : (F 5) = .bool true := h5
      rw [h5] at t18
      clear h5
      have h8 : (F 8) = .bool true := h8
      rw [h8] at t21
      clear h8
      go_simp
      exact hK _ _ jE rfl (fun _ _ _ h => h)
    · refine stepL_plain rfl ?_
      rintro F a w1 jE ⟨h9, t22, -⟩ - K hK
      have h9 : (F 9) = .bool true := h9
      rw [h9] at t22
      clear h9
      go_simp
      exact hK _ _ jE rfl (fun _ _ _ h => h)
    · refine stepL_of ?_
      rintro F a w1 jE ⟨h10, t23, -⟩ - K hK
      have h10 : (F 10) = .bool true := h10
      rw [h10] at t23
      clear h10
      refine stepY ((wanted_of 10 true 23 _ rfl rfl t23).trans rfl) ?_
      go_simp
      with_reducible refine (works_any _).mono ?_
      rintro e w2 ⟨rfl, hx⟩
      exact hK _ _ (jE.trans hx) (rfl) (by intro jq hj uq h; have hj : jq ∈ [10] := hj; simp only [List.mem_singleton] at hj; subst hj; exact h)
    · refine stepL_plain rfl ?_
      rintro F a w1 jE ⟨h10, t23, h11, t24, -⟩ - K hK
      have h10 : (F 10) = .bool true := h10
      rw [h10] at t23
      clear h10
      have h11 : (F 11) = .bool true := h11
      rw [h11] at t24
      clear h11
      go_simp
      exact hK _ _ jE rfl (fun _ _ _ h => h)
    · refine stepL_plain rfl ?_
      rintro F a w1 jE ⟨h12, t25, -⟩ - K hK
      have h12 : (F 12) = .bool true := h12
      rw [h12] at t25
      clear h12
      go_simp
      exact hK _ _ jE rfl (fun _ _ _ h => h)
  · rintro F w9 jE ⟨h13, -⟩
    have h13 : (F 13) = .bool true := h13
    have hx := jE.ext (Ext.refl _) (by simp)
    replace E5 := E5.trans hx
    clear jE hx
    simp only [putL, Act.put, Nat.reduceAdd, Nat.zero_add, List.setIfInBounds_toArray, List.set_cons_succ, List.set_cons_zero]
    rw [h13]
    clear h13
    go_wp2_with fail
    go_ret
    exact ⟨rfl, E5⟩
theorem law_rights (s : Sty) (w : World) (hR : 131072 < s.ul ∨ ∃ us : List Int, Rd w 1 s.ua s.ul (u16s us)) :
    Calls Try.prog 3 #[.agg s.cells] w fun e w' => e = .returned (.bool true) ∧ Ext w w' := by
  by_cases h : 131072 < s.ul
  · exact rights_vast s h w
  · rcases hR with h2 | ⟨us, h2⟩
    · exact absurd h2 h
    · exact rights_few s us (by omega) w h2
end Go.Proofs.Ytahneblnbafpoaa
