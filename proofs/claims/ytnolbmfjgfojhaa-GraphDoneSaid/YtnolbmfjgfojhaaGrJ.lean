/- Graphs: whether two are the same; the anchor (walks). -/
import Derived.Test.YtnolbmfjgfojhaaGrI
namespace Go.Proofs.Ytnolbmfjgfojhaa
open Go.RowKit
theorem same_eq (A B : Option Addr) (n c d : Nat) (xs : List Int) (w : World) (ha : Rd w 1 A n (ints xs)) (hb : Rd w 1 B n (ints xs)) (hn : n ≤ maxLen) :
    Calls Try.prog 33 #[.slice A n c, .slice B n d] w fun e w' => e = .returned (.bool true) ∧ Ext w w' := by
  have h := same_any A B n c n d xs xs w ha hb hn hn
  rwa [decide_eq_true rfl] at h
theorem same_lit (A : Option Addr) (n c : Nat) (xs : List Int) (lit : Array Value) (hlit : lit.toList = ints xs) (w : World) (ha : Rd w 1 A n (ints xs)) (hn : n ≤ maxLen) :
    Calls Try.prog 33 #[.slice A n c, .slice (some ⟨w.heap.size, 0, none⟩) n n] (w.alloc (.cells lit 3)) fun e w' => e = .returned (.bool true) ∧ Ext w w' := by
  have hl := ha.len
  have hb : Rd (w.alloc (.cells lit 3)) 1 (some ⟨w.heap.size, 0, none⟩) n (ints xs) := ⟨hl, fun _ => ⟨w.heap.size, 0, rfl, by simp, fun j u hu => by rw [Nat.zero_add, (Blk.new w 3 lit).cell, ← Array.getElem?_toList, hlit]; exact hu⟩⟩
  exact (same_eq A _ n c n xs _ (ha.alloc _) hb hn).mono fun _ _ h => ⟨h.1, ((Ext.refl _).alloc _).trans h.2⟩
set_option maxRecDepth 100000 in
set_option maxHeartbeats 4000000 in
theorem sameg_any (A B : Option Addr) (n ba oa bb ob Ba Bb : Nat) (l : List Int) (N : Nat → List Int) (w : World) (ha : Rd w 1 A n (ints l)) (hb : Rd w 1 B n (ints l)) (ra : RdR w Ba (some ⟨ba, oa, none⟩) n N) (rb : RdR w Bb (some ⟨bb, ob, none⟩) n N) (hn : n ≤ 900) (hN : ∀ i, i < n → (N i).length ≤ 900) :
    Calls Try.prog 45 #[.agg #[.slice A n n, .slice (some ⟨ba, oa, none⟩) n n], .agg #[.slice B n n, .slice (some ⟨bb, ob, none⟩) n n]] w fun e w' => e = .returned (.bool true) ∧ Ext w w' := by
  have cs := fun w1 (hx : Ext w w1) => hide (same_eq A B n n n l w1 (ha.ext hx) (hb.ext hx) (by unfold maxLen; omega))
  go_enter Try.func45, Try.ntmps45
  go_upto_region 1 with fail
  have B1 : Blk ((w.alloc (.cells #[.slice A n n, .slice (some ⟨ba, oa, none⟩) n n] 55)).alloc (.cells #[.slice B n n, .slice (some ⟨bb, ob, none⟩) n n] 55)) w.heap.size 55 #[.slice A n n, .slice (some ⟨ba, oa, none⟩) n n] := (Blk.new _ _ _).alloc _
  have B2 : Blk ((w.alloc (.cells #[.slice A n n, .slice (some ⟨ba, oa, none⟩) n n] 55)).alloc (.cells #[.slice B n n, .slice (some ⟨bb, ob, none⟩) n n] 55)) (w.heap.size + 1) 55 #[.slice B n n, .slice (some ⟨bb, ob, none⟩) n n] := by
    have h := Blk.new (w.alloc (.cells #[.slice A n n, .slice (some ⟨ba, oa, none⟩) n n] 55)) 55 #[.slice B n n, .slice (some ⟨bb, ob, none⟩) n n]
    rw [World.size_alloc] at h
    exact h
  have E0 : Ext w ((w.alloc (.cells #[.slice A n n, .slice (some ⟨ba, oa, none⟩) n n] 55)).alloc (.cells #[.slice B n n, .slice (some ⟨bb, ob, none⟩) n n] 55)) := ((Ext.refl _).alloc _).alloc _
  generalize (w.alloc (.cells #[.slice A n n, .slice (some ⟨ba, oa, none⟩) n n] 55)).alloc (.cells #[.slice B n n, .slice (some ⟨bb, ob, none⟩) n n] 55) = w1 at *
  generalize w.heap.size = g at *
  have c1 := B1.cell
  have c2 := B2.cell
  have l1 := B1.lt
  go_wp2_with fail
  refine (unhide (cs _ E0)).mono ?_
  rintro e w2 ⟨rfl, hx⟩
  replace B1 := B1.ext hx
  replace B2 := B2.ext hx
  replace E0 := E0.trans hx
  clear hx c1 c2 l1 cs
  have c1 := B1.cell
  have c2 := B2.cell
  have l1 := B1.lt
  go_wp2_with fail
  clear c1 c2 l1
  go_loopw [5] (fun v wr => ∃ i : Nat, v = .int .i64 i ∧ i ≤ n ∧ Ext w2 wr) (fun v _ => n - (intOf v).toNat)
  case atStart => exact ⟨0, rfl, by omega, Ext.refl _⟩
  case round =>
    obtain ⟨i, rfl, q1, E1⟩ := hrel
    have c1 := (B1.ext E1).cell
    have l1 := (B1.ext E1).lt
    by_cases hi : i < n
    · have hiI : (0 : Int) ≤ (i : Int) ∧ (i : Int) < (n : Int) := by omega
      obtain ⟨Ai, ci, hb1, hc1, hr1⟩ := (ra.ext (E0.trans E1)).rowIn hi
      obtain ⟨Bi, di, hb2, hc2, hr2⟩ := (rb.ext (E0.trans E1)).rowIn hi
      have hNi := hN i hi
      have cr := fun w1 (hx : Ext wr w1) => hide (same_eq Ai Bi _ ci di _ w1 (hr1.ext hx) (hr2.ext hx) (by unfold maxLen; omega))
      clear hr1 hr2 hNi
      generalize (N i).length = KL at *
      have BA := B1.ext E1
      have BB := B2.ext E1
      go_upto_region 6 with fail
      refine wp_region_lin (by kernel_rfl) (fun w' => (ExtX wr w' [])) (fun ii vv ww => match ii with | 0 => vv = .pointer (some ⟨g, 1, none⟩) | 1 => vv = .slice (some ⟨ba, oa, none⟩) n n | 2 => vv = .int .i64 (i : Int) | 3 => vv = .pointer (some ⟨ba, oa + i, none⟩) | 4 => vv = .slice Ai KL ci | 5 => vv = .pointer (some ⟨(g + 1), 1, none⟩) | 6 => vv = .slice (some ⟨bb, ob, none⟩) n n | 7 => vv = .int .i64 (i : Int) | 8 => vv = .pointer (some ⟨bb, ob + i, none⟩) | 9 => vv = .slice Bi KL di | 10 => vv = .bool true | 11 => vv = .bool false | _ => True) (fun ii => match ii with | 1 => [(0, 28)] | 3 => [(1, 29), (2, 30)] | 4 => [(3, 31)] | 6 => [(5, 33)] | 8 => [(6, 34), (7, 35)] | 9 => [(8, 36)] | 10 => [(4, 32), (9, 37)] | 11 => [(10, 38)] | _ => []) (fun ii => match ii with | 0 => [2] | 2 => [5] | 5 => [3] | 7 => [5] | _ => []) (fun ii => match ii with | 0 => [2, 5, 6, 7, 8, 9] | 1 => [2, 5, 6, 7, 8, 9] | 2 => [0, 1, 5, 6, 7, 8, 9] | 3 => [5, 6, 7, 8, 9] | 4 => [5, 6, 7, 8, 9] | 5 => [0, 1, 2, 3, 7, 4] | 6 => [0, 1, 2, 3, 7, 4] | 7 => [0, 1, 2, 3, 5, 6, 4] | 8 => [0, 1, 2, 3, 4] | 9 => [0, 1, 2, 3, 4] | _ => []) [11] [0, 1, 0, 7, 15, 0, 32, 0, 224, 480, 1023, 2047] 40 rfl (by kernel_rfl) (ExtX.start _ _) ?_ ?_
      · rename_i hcont; clear hcont
        refine ⟨?_, ?_, ?_, ?_, ?_, ?_, ?_, ?_, ?_, ?_, ?_, ?_, trivial⟩
        · refine stepL_plain rfl ?_
          rintro F a w1 jE - ⟨t2, -⟩ K hK
          have t2 : a.tmps[2]? = some (.pointer (some ⟨g, 0, none⟩)) := t2
          go_simp
          exact hK _ _ jE rfl (fun _ _ _ h => h)
        · refine stepL_plain rfl ?_
          rintro F a w1 jE ⟨h0, t28, -⟩ - K hK
          have h0 : (F 0) = .pointer (some ⟨g, 1, none⟩) := h0
          rw [h0] at t28
          clear h0
          have c := (jE.blk BA (by simp)).cell
          go_simp
          exact hK _ _ jE rfl (fun _ _ _ h => h)
        · refine stepL_plain rfl ?_
          rintro F a w1 jE - ⟨t5, -⟩ K hK
          have t5 : a.tmps[5]? = some (.int .i64 (i : Int)) := t5
          go_simp
          exact hK _ _ jE rfl (fun _ _ _ h => h)
        · refine stepL_plain rfl ?_
          rintro F a w1 jE ⟨h1, t29, h2, t30, -⟩ - K hK
          have h1 : (F 1) = .slice (some ⟨ba, oa, none⟩) n n := h1
          rw [h1] at t29
          clear h1
          have h2 : (F 2) = .int .i64 (i : Int) := h2
          rw [h2] at t30
          clear h2
          go_simp
          exact hK _ _ jE rfl (fun _ _ _ h => h)
        · refine stepL_plain rfl ?_
          rintro F a w1 jE ⟨h3, t31, -⟩ - K hK
          have h3 : (F 3) = .pointer (some ⟨ba, oa + i, none⟩) := h3
          rw [h3] at t31
          clear h3
          have c := ((jE.ext (Ext.refl _) (by simp)).cells.1 ba _ hb1).trans hc1
          go_simp
          exact hK _ _ jE rfl (fun _ _ _ h => h)
        · refine stepL_plain rfl ?_
          rintro F a w1 jE - ⟨t3, -⟩ K hK
          have t3 : a.tmps[3]? = some (.pointer (some ⟨(g + 1), 0, none⟩)) := t3
          go_simp
          exact hK _ _ jE rfl (fun _ _ _ h => h)
        · refine stepL_plain rfl ?_
          rintro F a w1 jE ⟨h5, t33, -⟩ - K hK
          have h5 : (F 5) = .pointer (some ⟨(g + 1), 1, none⟩) := h5
          rw [h5] at t33
          clear h5
          have c := (jE.blk BB (by simp)).cell
          go_simp
          exact hK _ _ jE rfl (fun _ _ _ h => h)
        · refine stepL_plain rfl ?_
          rintro F a w1 jE - ⟨t5, -⟩ K hK
          have t5 : a.tmps[5]? = some (.int .i64 (i : Int)) := t5
          go_simp
          exact hK _ _ jE rfl (fun _ _ _ h => h)
        · refine stepL_plain rfl ?_
          rintro F a w1 jE ⟨h6, t34, h7, t35, -⟩ - K hK
          have h6 : (F 6) = .slice (some ⟨bb, ob, none⟩) n n := h6
          rw [h6] at t34
          clear h6
          have h7 : (F 7) = .int .i64 (i : Int) := h7
          rw [h7] at t35
          clear h7
          go_simp
          exact hK _ _ jE rfl (fun _ _ _ h => h)
        · refine stepL_plain rfl ?_
          rintro F a w1 jE ⟨h8, t36, -⟩ - K hK
          have h8 : (F 8) = .pointer (some ⟨bb, ob + i, none⟩) := h8
          rw [h8] at t36
          clear h8
          have c := ((jE.ext (Ext.refl _) (by simp)).cells.1 bb _ hb2).trans hc2
          go_simp
          exact hK _ _ jE rfl (fun _ _ _ h => h)
        · refine stepL_plain rfl ?_
          rintro F a w1 jE ⟨h4, t32, h9, t37, -⟩ - K hK
          have h4 : (F 4) = .slice Ai KL ci := h4
          rw [h4] at t32
          clear h4
          have h9 : (F 9) = .slice Bi KL di := h9
          rw [h9] at t37
          clear h9
          go_simp
          with_reducible refine (unhide (cr w1 (jE.ext (Ext.refl _) (by simp)))).mono ?_
          rintro e w2 ⟨rfl, hx⟩
          exact hK _ _ (jE.trans hx) (rfl) (fun _ hj _ _ => (List.not_mem_nil hj).elim)
        · refine stepL_plain rfl ?_
          rintro F a w1 jE ⟨h10, t38, -⟩ - K hK
          have h10 : (F 10) = .bool true := h10
          rw [h10] at t38
          clear h10
          go_simp
          exact hK _ _ jE rfl (fun _ _ _ h => h)
      · rintro F w8 jE ⟨h11, -⟩
        have h11 : (F 11) = .bool false := h11
        have hx := jE.ext (Ext.refl _) (by simp)
        simp only [putL, Act.put, Nat.reduceAdd, Nat.zero_add, List.setIfInBounds_toArray, List.set_cons_succ, List.set_cons_zero]
        rw [h11]
        clear h11 jE hc1 hc2 hb1 hb2 cr BA BB c1 l1
        replace E1 := E1.trans hx
        clear hx
        go_wp2_with fail
        go_roundw
        case rel => exact ⟨i + 1, by go_num, by omega, E1⟩
        case measure => simp [intOf]; omega
    · have hiI : ¬ (i : Int) < (n : Int) := by omega
      go_wp2_with fail
      go_ret
      exact ⟨rfl, E0.trans E1⟩
def tr4 : List Nd := [ndK (-1) 1, ndK 0 1, ndK 0 1, ndK 2 1]
theorem tr4_ok : TOk tr4 := ⟨by decide, by decide, fun i hi => by
  match i, hi with
  | 0, _ => exact (show nodeV tr4 0 = 0 by kernel_rfl)
  | 1, _ => exact (show nodeV tr4 1 = 0 by kernel_rfl)
  | 2, _ => exact (show nodeV tr4 2 = 0 by kernel_rfl)
  | 3, _ => exact (show nodeV tr4 3 = 0 by kernel_rfl)
  | n + 4, h => exact absurd h (by simp [tr4])⟩
theorem tr4_u : wL (ofE (kidsN tr4 4) 4) 4 = [2, 0, 1, 0] := by kernel_rfl
theorem tr4_u3 : nE (ofE (kidsN tr4 4) 4) 3 = [2] := by kernel_rfl
theorem tr4_d : wL (doE (kidsN tr4 4) 4) 4 = [0, 1, 1, 1] := by kernel_rfl
theorem tr4_d0 : nE (doE (kidsN tr4 4) 4) 0 = [1, 2] := by kernel_rfl
theorem tr4_r : rootsN tr4 tr4.length = [0] := by kernel_rfl
/-- a graph of four, one row of which is told -/
def G4 (w : World) (l : List Int) (k : Nat) (r : List Int) (e : Ending) (w' : World) : Prop := ∃ A b off Ak ck, e = .returned (.agg #[.slice A 4 4, .slice (some ⟨b, off, none⟩) 4 4]) ∧ Rd w' 1 A 4 (ints l) ∧ b < w'.heap.size ∧ w'.cell? ⟨b, off + k, none⟩ = some (.slice Ak r.length ck) ∧ Rd w' 1 Ak r.length (ints r) ∧ Ext w w'
theorem GOut.four {w w' : World} {E : List (Int × Int)} {e : Ending} {l r : List Int} {k : Nat} (h : GOut w 4 E e w') (hl : wL E 4 = l) (hk : k < 4) (hr : nE E k = r) : G4 w l k r e w' := by
  obtain ⟨A, A', h1, h2, h3, _, h4⟩ := h
  obtain ⟨b, off, rfl⟩ := h3.addr (by omega)
  obtain ⟨Ak, ck, q1, q2, q3⟩ := h3.rowIn hk
  rw [hr] at q2 q3
  rw [hl] at h2
  exact ⟨A, b, off, Ak, ck, h1, h2, q1, q2, q3, h4⟩
set_option maxRecDepth 100000 in
set_option maxHeartbeats 8000000 in
theorem works26_any (w : World) : Calls Try.prog 42 #[] w fun e w' => e = .returned (.bool true) ∧ Ext w w' := by
  have cU := fun (g : Nat) w (h : Rd w 44 (some ⟨g + 1, 0, none⟩) 4 (nds tr4)) => hide ((up_graph ⟨some ⟨g + 1, 0, none⟩, 4, 4, none, 0, 0, 0⟩ tr4 (by simp only; omega) (by simp only; omega) w h).mono fun e w' q => (GOut.four q tr4_u (k := 3) (by omega) tr4_u3))
  have cD := fun (g : Nat) w (h : Rd w 44 (some ⟨g + 1, 0, none⟩) 4 (nds tr4)) => hide ((down_graph ⟨some ⟨g + 1, 0, none⟩, 4, 4, none, 0, 0, 0⟩ tr4 (by simp only; omega) (by simp only; omega) w h).mono fun e w' q => (GOut.four q tr4_d (k := 0) (by omega) tr4_d0))
  have cI := fun (g : Nat) w (h : Rd w 44 (some ⟨g + 1, 0, none⟩) 4 (nds tr4)) => hide (isles_graph ⟨some ⟨g + 1, 0, none⟩, 4, 4, none, 0, 0, 0⟩ tr4 tr4_ok (by simp only; omega) w h)
  simp only [tr4_r] at cI
  go_enter Try.func42, Try.ntmps42
  go_upto_region 1 with fail
  go_step
  refine wpList_buildTo rfl 45 _ rfl _ rfl (stK 1).cells (by kernel_rfl) ?_
  simp only [Act.put, List.setIfInBounds_toArray, List.set_cons_succ, List.set_cons_zero]
  refine wpList_alloc_var rfl 45 rfl zst.cells zero_st ?_
  intro wa Ba Ea za
  simp only [Act.put, List.setIfInBounds_toArray, List.set_cons_succ, List.set_cons_zero]
  refine wpList_store_blk rfl 45 _ _ rfl w.heap.size rfl (stK 1).cells rfl 45 zst.cells Ba (info_style _) rfl (by kernel_rfl) ?_
  intro w1 Bs hg zs
  simp only [Act.put]
  have E1 : Ext w w1 := Ext.grown Ea hg (fun g e => by injection e with e; omega)
  have z1 : w1.heap.size = w.heap.size + 1 := by omega
  generalize hgw : w.heap.size = g at *
  have HG := hide hgw
  clear Ba Ea za hg zs hgw
  go_upto_region 2 with fail
  go_step
  refine wpList_load_blk rfl 45 _ rfl g rfl 45 (stK 1).cells _ Bs Try.underlying45 rfl (info_style _) ?_
  simp only [Act.put, List.setIfInBounds_toArray, List.set_cons_succ, List.set_cons_zero]
  refine wpList_buildTo rfl 47 _ rfl _ rfl (ndK (-1) 1).cells.toArray (by kernel_rfl) ?_
  simp only [Act.put, List.setIfInBounds_toArray, List.set_cons_succ, List.set_cons_zero]
  refine wpList_load_blk rfl 45 _ rfl g rfl 45 (stK 1).cells _ Bs Try.underlying45 rfl (info_style _) ?_
  simp only [Act.put, List.setIfInBounds_toArray, List.set_cons_succ, List.set_cons_zero]
  refine wpList_buildTo rfl 47 _ rfl _ rfl (ndK 0 1).cells.toArray (by kernel_rfl) ?_
  simp only [Act.put, List.setIfInBounds_toArray, List.set_cons_succ, List.set_cons_zero]
  refine wpList_load_blk rfl 45 _ rfl g rfl 45 (stK 1).cells _ Bs Try.underlying45 rfl (info_style _) ?_
  simp only [Act.put, List.setIfInBounds_toArray, List.set_cons_succ, List.set_cons_zero]
  refine wpList_buildTo rfl 47 _ rfl _ rfl (ndK 0 1).cells.toArray (by kernel_rfl) ?_
  simp only [Act.put, List.setIfInBounds_toArray, List.set_cons_succ, List.set_cons_zero]
  refine wpList_load_blk rfl 45 _ rfl g rfl 45 (stK 1).cells _ Bs Try.underlying45 rfl (info_style _) ?_
  simp only [Act.put, List.setIfInBounds_toArray, List.set_cons_succ, List.set_cons_zero]
  refine wpList_buildTo rfl 47 _ rfl _ rfl (ndK 2 1).cells.toArray (by kernel_rfl) ?_
  simp only [Act.put, List.setIfInBounds_toArray, List.set_cons_succ, List.set_cons_zero]
  refine wpList_nodes rfl 4 _ rfl tr4 (by decide) (by kernel_rfl) ?_
  intro w2 BN E2 z2
  simp only [Act.put, List.setIfInBounds_toArray, List.set_cons_succ, List.set_cons_zero]
  rw [z1] at BN ⊢
  replace E1 := E1.trans E2
  clear E2 Bs
  refine wpList_buildTo rfl 25 _ rfl _ rfl (Tr.cs ⟨some ⟨g + 1, 0, none⟩, 4, 4, none, 0, 0, 0⟩) (by kernel_rfl) ?_
  simp only [Act.put, List.setIfInBounds_toArray, List.set_cons_succ, List.set_cons_zero]
  refine wpList_alloc_var rfl 25 rfl #[.slice none 0 0, .slice none 0 0, .int .i64 0] zero_tr ?_
  intro wa Ba Ea za
  simp only [Act.put, List.setIfInBounds_toArray, List.set_cons_succ, List.set_cons_zero]
  refine wpList_store_blk rfl 25 _ _ rfl w2.heap.size rfl (Tr.cs ⟨some ⟨g + 1, 0, none⟩, 4, 4, none, 0, 0, 0⟩) rfl 25 #[.slice none 0 0, .slice none 0 0, .int .i64 0] Ba (info_tree _) rfl (by kernel_rfl) ?_
  intro w3 BT hg zs
  simp only [Act.put]
  have BN2 := (BN.ext Ea).grown hg (fun e => by injection e with e; omega)
  replace E1 := Ext.grown (E1.trans Ea) hg (fun q e => by injection e with e; have := unhide HG; omega)
  have RN : Rd w3 44 (some ⟨g + 1, 0, none⟩) 4 (nds tr4) := by
    have := BN2.rdk (n := 4) (k := 44) (by rw [List.size_toArray, nds_len]; rfl)
    simpa using this
  have z3 : w2.heap.size = g + 1 + 1 := by omega
  rw [z3] at BT ⊢
  clear BN BN2 Ba Ea hg za zs z1 z2 z3 w2 wa w1
  replace cU := fun w => cU g w
  replace cD := fun w => cD g w
  replace cI := fun w => cI g w
  have BTc := BT.cell
  have BTl := BT.lt
  go_wp2_with fail
  refine (unhide (cU _ RN)).mono ?_
  rintro e w4 ⟨A1, b1, o1, K1, k1, rfl, R1, l1, d1, Q1, hx⟩
  clear BTc BTl
  replace BT := BT.ext hx
  replace RN := RN.ext hx
  replace E1 := E1.trans hx
  clear hx
  clear cU
  go_upto_region 4 with fail
  have hx : Ext w4 (w4.alloc (.cells #[.slice A1 4 4, .slice (some ⟨b1, o1, none⟩) 4 4] 55)) := (Ext.refl _).alloc _
  have BG1 : Blk (w4.alloc (.cells #[.slice A1 4 4, .slice (some ⟨b1, o1, none⟩) 4 4] 55)) w4.heap.size 55 #[.slice A1 4 4, .slice (some ⟨b1, o1, none⟩) 4 4] := Blk.new _ _ _
  replace BT := BT.ext hx
  replace RN := RN.ext hx
  replace R1 := R1.ext hx
  replace Q1 := Q1.ext hx
  replace d1 := (hx.cells.1 b1 _ l1).trans d1
  replace l1 := Nat.lt_of_lt_of_le l1 hx.size
  replace E1 := E1.trans hx
  clear hx
  generalize w4.heap.size = gg1 at *
  generalize w4.alloc (.cells #[.slice A1 4 4, .slice (some ⟨b1, o1, none⟩) 4 4] 55) = w5 at *
  have BTc := BT.cell
  have BTl := BT.lt
  go_wp2_with fail
  refine (unhide (cD _ RN)).mono ?_
  rintro e w6 ⟨A2, b2, o2, K2, k2, rfl, R2, l2, d2, Q2, hx⟩
  clear BTc BTl
  replace BT := BT.ext hx
  replace RN := RN.ext hx
  replace R1 := R1.ext hx
  replace Q1 := Q1.ext hx
  replace BG1 := BG1.ext hx
  replace d1 := (hx.cells.1 b1 _ l1).trans d1
  replace l1 := Nat.lt_of_lt_of_le l1 hx.size
  replace E1 := E1.trans hx
  clear hx
  clear cD
  go_upto_region 5 with fail
  have hx : Ext w6 (w6.alloc (.cells #[.slice A2 4 4, .slice (some ⟨b2, o2, none⟩) 4 4] 55)) := (Ext.refl _).alloc _
  have BG2 : Blk (w6.alloc (.cells #[.slice A2 4 4, .slice (some ⟨b2, o2, none⟩) 4 4] 55)) w6.heap.size 55 #[.slice A2 4 4, .slice (some ⟨b2, o2, none⟩) 4 4] := Blk.new _ _ _
  replace BT := BT.ext hx
  replace RN := RN.ext hx
  replace R1 := R1.ext hx
  replace Q1 := Q1.ext hx
  replace BG1 := BG1.ext hx
  replace R2 := R2.ext hx
  replace Q2 := Q2.ext hx
  replace d1 := (hx.cells.1 b1 _ l1).trans d1
  replace l1 := Nat.lt_of_lt_of_le l1 hx.size
  replace d2 := (hx.cells.1 b2 _ l2).trans d2
  replace l2 := Nat.lt_of_lt_of_le l2 hx.size
  replace E1 := E1.trans hx
  clear hx
  generalize w6.heap.size = gg2 at *
  generalize w6.alloc (.cells #[.slice A2 4 4, .slice (some ⟨b2, o2, none⟩) 4 4] 55) = w7 at *
  have BTc := BT.cell
  have BTl := BT.lt
  go_wp2_with fail
  refine (unhide (cI _ RN)).mono ?_
  rintro e w8 ⟨A3, A3', A4, c4, rfl, R3, Q3, R4, hx⟩
  clear BTc BTl
  replace BT := BT.ext hx
  replace RN := RN.ext hx
  replace R1 := R1.ext hx
  replace Q1 := Q1.ext hx
  replace BG1 := BG1.ext hx
  replace R2 := R2.ext hx
  replace Q2 := Q2.ext hx
  replace BG2 := BG2.ext hx
  replace d1 := (hx.cells.1 b1 _ l1).trans d1
  replace l1 := Nat.lt_of_lt_of_le l1 hx.size
  replace d2 := (hx.cells.1 b2 _ l2).trans d2
  replace l2 := Nat.lt_of_lt_of_le l2 hx.size
  replace E1 := E1.trans hx
  clear hx
  clear cI
  simp only [List.length_cons, List.length_nil, Nat.zero_add]
  go_upto_region 6 with fail
  have hx : Ext w8 (w8.alloc (.cells #[.slice A3 1 1, .slice A3' 1 1] 55)) := (Ext.refl _).alloc _
  have BG3 : Blk (w8.alloc (.cells #[.slice A3 1 1, .slice A3' 1 1] 55)) w8.heap.size 55 #[.slice A3 1 1, .slice A3' 1 1] := Blk.new _ _ _
  replace BT := BT.ext hx
  replace RN := RN.ext hx
  replace R1 := R1.ext hx
  replace Q1 := Q1.ext hx
  replace BG1 := BG1.ext hx
  replace R2 := R2.ext hx
  replace Q2 := Q2.ext hx
  replace BG2 := BG2.ext hx
  replace R4 := R4.ext hx
  replace d1 := (hx.cells.1 b1 _ l1).trans d1
  replace l1 := Nat.lt_of_lt_of_le l1 hx.size
  replace d2 := (hx.cells.1 b2 _ l2).trans d2
  replace l2 := Nat.lt_of_lt_of_le l2 hx.size
  replace E1 := E1.trans hx
  clear hx
  generalize w8.heap.size = gg3 at *
  generalize w8.alloc (.cells #[.slice A3 1 1, .slice A3' 1 1] 55) = w9 at *
  simp only [List.length_cons, List.length_nil, Nat.zero_add] at R4 Q1 Q2 d1 d2
  simp only [Nat.add_zero] at d2
  have BG1c := BG1.cell
  have BG1l := BG1.lt
  have BG2c := BG2.cell
  have BG2l := BG2.lt
  have BG3c := BG3.cell
  have BG3l := BG3.lt
  go_wp2_with fail
  refine (same_lit A1 4 4 [2, 0, 1, 0] _ rfl _ R1 (by unfold maxLen; omega)).mono ?_
  rintro e v1 ⟨rfl, hx⟩
  clear BG1c BG1l BG2c BG2l BG3c BG3l
  replace BT := BT.ext hx
  replace RN := RN.ext hx
  replace R1 := R1.ext hx
  replace Q1 := Q1.ext hx
  replace BG1 := BG1.ext hx
  replace R2 := R2.ext hx
  replace Q2 := Q2.ext hx
  replace BG2 := BG2.ext hx
  replace R4 := R4.ext hx
  replace BG3 := BG3.ext hx
  replace d1 := (hx.cells.1 b1 _ l1).trans d1
  replace l1 := Nat.lt_of_lt_of_le l1 hx.size
  replace d2 := (hx.cells.1 b2 _ l2).trans d2
  replace l2 := Nat.lt_of_lt_of_le l2 hx.size
  replace E1 := E1.trans hx
  clear hx
  have BG1c := BG1.cell
  have BG1l := BG1.lt
  have BG2c := BG2.cell
  have BG2l := BG2.lt
  have BG3c := BG3.cell
  have BG3l := BG3.lt
  go_wp2_with fail
  refine (same_lit K1 1 k1 [2] _ rfl _ Q1 (by unfold maxLen; omega)).mono ?_
  rintro e v2 ⟨rfl, hx⟩
  clear BG1c BG1l BG2c BG2l BG3c BG3l
  replace BT := BT.ext hx
  replace RN := RN.ext hx
  replace R1 := R1.ext hx
  replace Q1 := Q1.ext hx
  replace BG1 := BG1.ext hx
  replace R2 := R2.ext hx
  replace Q2 := Q2.ext hx
  replace BG2 := BG2.ext hx
  replace R4 := R4.ext hx
  replace BG3 := BG3.ext hx
  replace d1 := (hx.cells.1 b1 _ l1).trans d1
  replace l1 := Nat.lt_of_lt_of_le l1 hx.size
  replace d2 := (hx.cells.1 b2 _ l2).trans d2
  replace l2 := Nat.lt_of_lt_of_le l2 hx.size
  replace E1 := E1.trans hx
  clear hx
  have BG1c := BG1.cell
  have BG1l := BG1.lt
  have BG2c := BG2.cell
  have BG2l := BG2.lt
  have BG3c := BG3.cell
  have BG3l := BG3.lt
  go_wp2_with fail
  refine (same_lit A2 4 4 [0, 1, 1, 1] _ rfl _ R2 (by unfold maxLen; omega)).mono ?_
  rintro e v3 ⟨rfl, hx⟩
  clear BG1c BG1l BG2c BG2l BG3c BG3l
  replace BT := BT.ext hx
  replace RN := RN.ext hx
  replace R1 := R1.ext hx
  replace Q1 := Q1.ext hx
  replace BG1 := BG1.ext hx
  replace R2 := R2.ext hx
  replace Q2 := Q2.ext hx
  replace BG2 := BG2.ext hx
  replace R4 := R4.ext hx
  replace BG3 := BG3.ext hx
  replace d1 := (hx.cells.1 b1 _ l1).trans d1
  replace l1 := Nat.lt_of_lt_of_le l1 hx.size
  replace d2 := (hx.cells.1 b2 _ l2).trans d2
  replace l2 := Nat.lt_of_lt_of_le l2 hx.size
  replace E1 := E1.trans hx
  clear hx
  have BG1c := BG1.cell
  have BG1l := BG1.lt
  have BG2c := BG2.cell
  have BG2l := BG2.lt
  have BG3c := BG3.cell
  have BG3l := BG3.lt
  go_wp2_with fail
  refine (same_lit K2 2 k2 [1, 2] _ rfl _ Q2 (by unfold maxLen; omega)).mono ?_
  rintro e v4 ⟨rfl, hx⟩
  clear BG1c BG1l BG2c BG2l BG3c BG3l
  replace BT := BT.ext hx
  replace RN := RN.ext hx
  replace R1 := R1.ext hx
  replace Q1 := Q1.ext hx
  replace BG1 := BG1.ext hx
  replace R2 := R2.ext hx
  replace Q2 := Q2.ext hx
  replace BG2 := BG2.ext hx
  replace R4 := R4.ext hx
  replace BG3 := BG3.ext hx
  replace d1 := (hx.cells.1 b1 _ l1).trans d1
  replace l1 := Nat.lt_of_lt_of_le l1 hx.size
  replace d2 := (hx.cells.1 b2 _ l2).trans d2
  replace l2 := Nat.lt_of_lt_of_le l2 hx.size
  replace E1 := E1.trans hx
  clear hx
  have BG1c := BG1.cell
  have BG1l := BG1.lt
  have BG2c := BG2.cell
  have BG2l := BG2.lt
  have BG3c := BG3.cell
  have BG3l := BG3.lt
  go_wp2_with fail
  refine (same_lit A4 1 c4 [0] _ rfl _ R4 (by unfold maxLen; omega)).mono ?_
  rintro e v5 ⟨rfl, hx⟩
  clear BG1c BG1l BG2c BG2l BG3c BG3l
  replace BT := BT.ext hx
  replace RN := RN.ext hx
  replace R1 := R1.ext hx
  replace Q1 := Q1.ext hx
  replace BG1 := BG1.ext hx
  replace R2 := R2.ext hx
  replace Q2 := Q2.ext hx
  replace BG2 := BG2.ext hx
  replace R4 := R4.ext hx
  replace BG3 := BG3.ext hx
  replace d1 := (hx.cells.1 b1 _ l1).trans d1
  replace l1 := Nat.lt_of_lt_of_le l1 hx.size
  replace d2 := (hx.cells.1 b2 _ l2).trans d2
  replace l2 := Nat.lt_of_lt_of_le l2 hx.size
  replace E1 := E1.trans hx
  clear hx
  have BG1c := BG1.cell
  have BG1l := BG1.lt
  have BG2c := BG2.cell
  have BG2l := BG2.lt
  have BG3c := BG3.cell
  have BG3l := BG3.lt
  go_wp2_with fail
  go_ret
  exact ⟨rfl, E1⟩
end Go.Proofs.Ytnolbmfjgfojhaa
