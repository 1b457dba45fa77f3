/- Islands: the island over a root (walks). -/
import Derived.Test.YtnolbmfjgfojhaaIsB
namespace Go.Proofs.Ytnolbmfjgfojhaa
open Go.RowKit
theorem over_no {ns : List Nd} {z : Int} (h : z ≤ 0 ∨ rootI ns z = false) : overI ns z = -1 := by
  rw [overI, if_neg]
  rintro ⟨h1, h2⟩
  rcases h with h | h
  · omega
  · rw [h] at h2; cases h2
theorem over_yes {ns : List Nd} {k p : Nat} (h : rootI ns k = true) (h0 : 0 < k) (hp : nP ns k = p) : overI ns k = (isl ns p : Int) := by
  rw [overI, if_pos ⟨by omega, h⟩, Int.toNat_natCast, hp, Int.toNat_natCast]
theorem root_box {ns : List Nd} {z : Int} (h : rootI ns z = true) : boxI ns z = true := by
  have hz := rootI_lt h
  obtain ⟨k, rfl⟩ : ∃ k : Nat, z = k := ⟨z.toNat, by omega⟩
  have hk : k < ns.length := by omega
  rw [rootI_nat, root_val (List.getElem?_eq_getElem hk)] at h
  rw [boxI, Int.toNat_natCast, nK_of hk]
  by_cases h3 : ns[k].s.kind = 3
  · rw [if_pos h3] at h; cases h
  · simp [h3]; omega
section
variable (t : Tr) (ns : List Nd)
set_option maxRecDepth 100000 in
set_option maxHeartbeats 4000000 in
theorem over_any (hT : TOk ns) (z : Int) (w : World) (h : Rd w 44 t.na t.nl (nds ns)) (hm : t.nl ≤ maxLen) :
    Calls Try.prog 38 #[.agg t.cs, .int .i64 z] w fun e w' => e = .returned (.int .i64 (overI ns z)) ∧ Ext w w' := by
  by_cases h0 : z ≤ 0
  · rw [over_no (.inl h0)]
    go_enter Try.func38, Try.ntmps38
    go_wp2_with fail
    go_ret
    exact ⟨rfl, (Ext.refl _).alloc _⟩
  obtain ⟨r, hr⟩ : ∃ r, rootI ns z = r := ⟨_, rfl⟩
  have cz := fun w h => hide (root_all t ns z w h hm)
  rw [hr] at cz
  cases r
  · rw [over_no (.inr hr)]
    have HR := hide hr
    clear hr
    go_enter Try.func38, Try.ntmps38
    go_wp2_with fail
    refine (unhide (cz _ (h.alloc _))).mono ?_
    rintro e w2 ⟨rfl, hx⟩
    go_wp2_with fail
    go_ret
    exact ⟨rfl, ((Ext.refl _).alloc _).trans hx⟩
  have hz := rootI_lt hr
  obtain ⟨k, rfl⟩ : ∃ k : Nat, z = k := ⟨z.toNat, by omega⟩
  have hk : k < ns.length := by omega
  obtain ⟨p, hp, hpk⟩ := hT.par (by omega : 0 < k) hk
  have HV := hide (over_yes hr (by omega) hp)
  have hl := h.nlen
  have hm' := hm
  unfold maxLen at hm'
  obtain ⟨b, off, ha, hb, _⟩ := h.at_ (by omega)
  have HP := hide (fun (k : Nat) (hk : k < ns.length) => h.par ha hk)
  have cp := (unhide HP) k hk
  rw [hp] at cp
  have HT := hide hT
  have hh := h
  have cu := fun (k : Nat) (hk : k < ns.length) w h => hide (root_in t ns k hk w h hm)
  obtain ⟨na, nl, nc, aa, al, ac, view⟩ := t
  simp only at ha hm hm' hl h hh cu cz
  subst ha
  have hin : (0 : Int) ≤ (k : Int) ∧ (k : Int) < (nl : Int) := by omega
  have HR := hide hr
  have HPP := hide hp
  clear h hT hm hr hp hz
  go_enter Try.func38, Try.ntmps38
  go_wp2_with fail
  refine (unhide (cz _ (hh.alloc _))).mono ?_
  rintro e w2 ⟨rfl, hx⟩
  have BT : Blk w2 w.heap.size 25 (Tr.cs ⟨some ⟨b, off, none⟩, nl, nc, aa, al, ac, view⟩) := (Blk.new _ _ _).ext hx
  have E1 : Ext w w2 := ((Ext.refl _).alloc _).trans hx
  clear hx cz
  have c1 := BT.cell
  have l1 := BT.lt
  have cp2 := (E1.cells.1 b _ hb).trans cp
  clear cp
  go_wp2_with fail
  clear c1 l1 cp2
  go_loopw [5] (fun v wr => ∃ m : Nat, v = .int .i64 m ∧ m < ns.length ∧ Hid (isl ns m = isl ns p) ∧ Ext w wr ∧ Blk wr w.heap.size 25 (Tr.cs ⟨some ⟨b, off, none⟩, nl, nc, aa, al, ac, view⟩)) (fun v _ => (intOf v).toNat)
  case atStart => exact ⟨p, rfl, by omega, hide rfl, E1, BT⟩
  case round =>
    clear E1 BT
    obtain ⟨m, rfl, q1, HI, E1, BT⟩ := hrel
    have c1 := BT.cell
    have l1 := BT.lt
    by_cases m0 : m = 0
    · have hnp : ¬ (0 : Int) < (m : Int) := by omega
      have HI2 := hide (show overI ns k = (m : Int) by rw [unhide HV, ← unhide HI, m0, isl_root (unhide HT).root0])
      clear m0
      go_wp2_with fail
      go_ret
      exact ⟨ret1 (unhide HI2).symm, E1⟩
    · have hps : (0 : Int) < (m : Int) ∧ (m : Int) < (nl : Int) := by omega
      have ck := cu m q1
      obtain ⟨r, hr⟩ : ∃ r, rootN ns m = r := ⟨_, rfl⟩
      rw [hr] at ck
      have HR2 := hide hr
      clear hr
      cases r
      · obtain ⟨p2, hp2, hpm⟩ := (unhide HT).par (by omega : 0 < m) q1
        have HI2 := hide (show isl ns p2 = isl ns p by rw [← unhide HI, isl_up (unhide HR2) (((unhide HT).parN q1).trans hp2)])
        have cq := (unhide HP) m q1
        rw [hp2] at cq
        clear hp2
        have hin2 : (0 : Int) ≤ (m : Int) := by omega
        go_wp2_with fail
        refine (unhide (ck _ (hh.ext E1))).mono ?_
        rintro e w3 ⟨rfl, hx⟩
        replace E1 := E1.trans hx
        replace BT := BT.ext hx
        clear hx c1 l1
        have c1 := BT.cell
        have l1 := BT.lt
        have cq2 := (E1.cells.1 b _ hb).trans cq
        clear cq
        go_wp2_with fail
        go_roundw
        case rel => exact ⟨p2, rfl, by omega, HI2, E1, BT⟩
        case measure => simp [intOf]; omega
      · have HI2 := hide (show overI ns k = (m : Int) by rw [unhide HV, ← unhide HI, isl_root (unhide HR2)])
        go_wp2_with fail
        refine (unhide (ck _ (hh.ext E1))).mono ?_
        rintro e w3 ⟨rfl, hx⟩
        go_wp2_with fail
        go_ret
        exact ⟨ret1 (unhide HI2).symm, E1.trans hx⟩
set_option maxRecDepth 100000 in
set_option maxHeartbeats 4000000 in
theorem refover_any (hT : TOk ns) (z : Int) (w : World) (h : Rd w 44 t.na t.nl (nds ns)) (hm : t.nl ≤ maxLen) :
    Calls Try.prog 39 #[.agg t.cs, .int .i64 z] w fun e w' => e = .returned (.int .i64 (overI ns z)) ∧ Ext w w' := by
  by_cases h0 : z ≤ 0
  · rw [over_no (.inl h0)]
    go_enter Try.func39, Try.ntmps39
    go_wp2_with fail
    go_ret
    exact ⟨rfl, (Ext.refl _).alloc _⟩
  obtain ⟨q, hq⟩ : ∃ q, boxI ns z = q := ⟨_, rfl⟩
  have cb := fun w h => hide (box_any t ns z w h hm)
  rw [hq] at cb
  obtain ⟨r, hr⟩ : ∃ r, rootI ns z = r := ⟨_, rfl⟩
  have cz := fun w h => hide (refroot_all t ns z w h hm)
  rw [hr] at cz
  cases q
  · have hr2 : rootI ns z = false := by
      cases r
      · exact hr
      · rw [root_box hr] at hq; cases hq
    rw [over_no (.inr hr2)]
    clear hq hr hr2 cz
    go_enter Try.func39, Try.ntmps39
    go_wp2_with fail
    refine (unhide (cb _ (h.alloc _))).mono ?_
    rintro e w2 ⟨rfl, hx⟩
    go_wp2_with fail
    go_ret
    exact ⟨rfl, ((Ext.refl _).alloc _).trans hx⟩
  clear hq
  cases r
  · rw [over_no (.inr hr)]
    clear hr
    go_enter Try.func39, Try.ntmps39
    go_wp2_with fail
    refine (unhide (cb _ (h.alloc _))).mono ?_
    rintro e w2 ⟨rfl, hx⟩
    have BT : Blk w2 w.heap.size 25 t.cs := (Blk.new _ _ _).ext hx
    have E1 : Ext w w2 := ((Ext.refl _).alloc _).trans hx
    clear hx cb
    have c1 := BT.cell
    have l1 := BT.lt
    go_wp2_with fail
    refine (unhide (cz _ (h.ext E1))).mono ?_
    rintro e w3 ⟨rfl, hx⟩
    go_wp2_with fail
    go_ret
    exact ⟨rfl, E1.trans hx⟩
  have hz := rootI_lt hr
  obtain ⟨k, rfl⟩ : ∃ k : Nat, z = k := ⟨z.toNat, by omega⟩
  have hk : k < ns.length := by omega
  obtain ⟨p, hp, hpk⟩ := hT.par (by omega : 0 < k) hk
  have HV := hide (over_yes hr (by omega) hp)
  have hl := h.nlen
  have hm' := hm
  unfold maxLen at hm'
  obtain ⟨b, off, ha, hb, _⟩ := h.at_ (by omega)
  have cp := h.par ha hk
  rw [hp] at cp
  have hh := h
  have ci := fun w h => hide (island_any t ns hT p (by omega) w h hm)
  obtain ⟨na, nl, nc, aa, al, ac, view⟩ := t
  simp only at ha hm hm' hl h hh cz cb ci
  subst ha
  have hin : (0 : Int) ≤ (k : Int) ∧ (k : Int) < (nl : Int) := by omega
  clear h hT hm hr hp hz
  go_enter Try.func39, Try.ntmps39
  go_wp2_with fail
  refine (unhide (cb _ (hh.alloc _))).mono ?_
  rintro e w2 ⟨rfl, hx⟩
  have BT : Blk w2 w.heap.size 25 (Tr.cs ⟨some ⟨b, off, none⟩, nl, nc, aa, al, ac, view⟩) := (Blk.new _ _ _).ext hx
  have E1 : Ext w w2 := ((Ext.refl _).alloc _).trans hx
  clear hx cb
  have c1 := BT.cell
  have l1 := BT.lt
  go_wp2_with fail
  refine (unhide (cz _ (hh.ext E1))).mono ?_
  rintro e w3 ⟨rfl, hx⟩
  replace E1 := E1.trans hx
  replace BT := BT.ext hx
  clear hx cz c1 l1
  have cp2 := (E1.cells.1 b _ hb).trans cp
  have hb2 : b < w3.heap.size := Nat.lt_of_lt_of_le hb E1.size
  generalize hg : w.heap.size = g at *
  have HG := hide hg
  clear hg cp
  go_upto_region 3 with fail
  refine wp_region_lin (by kernel_rfl) (fun w' => (ExtX w3 w' [])) (fun ii vv ww => match ii with | 0 => vv = (.agg (Tr.cs ⟨some ⟨b, off, none⟩, nl, nc, aa, al, ac, view⟩)) | 1 => vv = .pointer (some ⟨g, 0, none⟩) | 2 => vv = .slice (some ⟨b, off, none⟩) nl nc | 3 => vv = .int .i64 (k : Int) | 4 => vv = .pointer (some ⟨b, off + k * 44, none⟩) | 5 => vv = .pointer (some ⟨b, off + k * 44, none⟩) | 6 => vv = .int .i64 (p : Int) | 7 => vv = .int .i64 ((isl ns p : Nat) : Int) | 8 => vv = .int .i64 ((isl ns p : Nat) : Int) | _ => True) (fun ii => match ii with | 2 => [(1, 20)] | 4 => [(2, 21), (3, 22)] | 5 => [(4, 23)] | 6 => [(5, 24)] | 7 => [(0, 19), (6, 25)] | 8 => [(7, 26)] | _ => []) (fun ii => match ii with | 0 => [2] | 1 => [2] | 3 => [1] | _ => []) (fun ii => match ii with | 0 => [1, 2, 3, 4, 5, 6] | 1 => [3, 0] | 2 => [3, 0] | 3 => [1, 2, 0] | 4 => [0] | 5 => [0] | 6 => [0] | _ => []) [8] [0, 0, 2, 0, 14, 30, 62, 127, 255] 27 rfl (by kernel_rfl) (ExtX.start _ _) ?_ ?_
  · rename_i hcont; clear hcont
    refine ⟨?_, ?_, ?_, ?_, ?_, ?_, ?_, ?_, ?_, trivial⟩
    · refine stepL_plain rfl ?_
      rintro F a w1 jE - ⟨t2, -⟩ K hK
      have t2 : a.tmps[2]? = some (.pointer (some ⟨g, 0, none⟩)) := t2
      have c := (jE.blk BT (by simp)).cell
      refine wp_load_blk 25 _ rfl g (eval_tmp t2) 25 (Tr.cs ⟨some ⟨b, off, none⟩, nl, nc, aa, al, ac, view⟩) _ (jE.blk BT (by simp)) Try.underlying25 rfl (info_tree _) ?_
      exact hK _ _ jE rfl (fun _ _ _ h => h)
    · refine stepL_plain rfl ?_
      rintro F a w1 jE - ⟨t2, -⟩ K hK
      have t2 : a.tmps[2]? = some (.pointer (some ⟨g, 0, none⟩)) := t2
      go_simp
      exact hK _ _ jE rfl (fun _ _ _ h => h)
    · refine stepL_plain rfl ?_
      rintro F a w1 jE ⟨h1, t20, -⟩ - K hK
      have h1 : (F 1) = .pointer (some ⟨g, 0, none⟩) := h1
      rw [h1] at t20
      clear h1
      have c := (jE.blk BT (by simp)).cell
      go_simp
      exact hK _ _ jE rfl (fun _ _ _ h => h)
    · refine stepL_plain rfl ?_
      rintro F a w1 jE - ⟨t1, -⟩ K hK
      have t1 : a.tmps[1]? = some (.int .i64 (k : Int)) := t1
      go_simp
      exact hK _ _ jE rfl (fun _ _ _ h => h)
    · refine stepL_plain rfl ?_
      rintro F a w1 jE ⟨h2, t21, h3, t22, -⟩ - K hK
      have h2 : (F 2) = .slice (some ⟨b, off, none⟩) nl nc := h2
      rw [h2] at t21
      clear h2
      have h3 : (F 3) = .int .i64 (k : Int) := h3
      rw [h3] at t22
      clear h3
      go_simp
      exact hK _ _ jE rfl (fun _ _ _ h => h)
    · refine stepL_plain rfl ?_
      rintro F a w1 jE ⟨h4, t23, -⟩ - K hK
      have h4 : (F 4) = .pointer (some ⟨b, off + k * 44, none⟩) := h4
      rw [h4] at t23
      clear h4
      go_simp
      exact hK _ _ jE rfl (fun _ _ _ h => h)
    · refine stepL_plain rfl ?_
      rintro F a w1 jE ⟨h5, t24, -⟩ - K hK
      have h5 : (F 5) = .pointer (some ⟨b, off + k * 44, none⟩) := h5
      rw [h5] at t24
      clear h5
      have c := ((jE.ext (Ext.refl _) (by simp)).cells.1 b _ hb2).trans cp2
      go_simp
      exact hK _ _ jE rfl (fun _ _ _ h => h)
    · refine stepL_plain rfl ?_
      rintro F a w1 jE ⟨h0, t19, h6, t25, -⟩ - K hK
      have h0 : (F 0) = (.agg (Tr.cs ⟨some ⟨b, off, none⟩, nl, nc, aa, al, ac, view⟩)) := h0
      rw [h0] at t19
      clear h0
      have h6 : (F 6) = .int .i64 (p : Int) := h6
      rw [h6] at t25
      clear h6
      go_simp
      with_reducible refine (unhide (ci _ (hh.ext (E1.trans (jE.ext (Ext.refl _) (by simp)))))).mono ?_
      rintro e w2 ⟨rfl, hx⟩
      exact hK _ _ (jE.trans hx) (rfl) (fun _ hj _ _ => (List.not_mem_nil hj).elim)
    · refine stepL_plain rfl ?_
      rintro F a w1 jE ⟨h7, t26, -⟩ - K hK
      have h7 : (F 7) = .int .i64 ((isl ns p : Nat) : Int) := h7
      rw [h7] at t26
      clear h7
      go_simp
      exact hK _ _ jE rfl (fun _ _ _ h => h)
  · rintro F w9 jE ⟨h8, -⟩
    have h8 : (F 8) = .int .i64 ((isl ns p : Nat) : Int) := h8
    have hx := jE.ext (Ext.refl _) (by simp)
    replace E1 := E1.trans hx
    clear jE hx
    simp only [putL, Act.put, Nat.reduceAdd, Nat.zero_add, List.setIfInBounds_toArray, List.set_cons_succ, List.set_cons_zero]
    rw [h8]
    clear h8
    go_wp2_with fail
    go_ret
    exact ⟨ret1 (unhide HV).symm, E1⟩
end
end Go.Proofs.Ytnolbmfjgfojhaa
