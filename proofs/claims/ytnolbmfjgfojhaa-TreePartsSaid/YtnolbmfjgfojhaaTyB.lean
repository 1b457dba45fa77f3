/- Trees: the last ones below (walks). -/
import Derived.Test.YtnolbmfjgfojhaaTyA
namespace Go.Proofs.Ytnolbmfjgfojhaa
open Go.RowKit
section
variable (t : Tr) (ns : List Nd)
set_option maxRecDepth 100000 in
set_option maxHeartbeats 8000000 in
theorem last_any (w : World) (h : Rd w 44 t.na t.nl (nds ns)) (hm : t.nl ≤ 1000000) :
    Calls Try.prog 26 #[.agg t.cs] w (IntsOut w (lastsN ns)) := by
  have hl := h.nlen
  have hm' : t.nl ≤ maxLen := by unfold maxLen; omega
  have hmk := make_ints t.nl hm
  have HL := hide hl
  clear hl
  go_enter Try.func26, Try.ntmps26
  go_wp2_with fail
  have BT : Blk ((w.alloc (.cells t.cs 25)).alloc (.cells (Array.replicate t.nl (.int .i64 0)) 3)) w.heap.size 25 t.cs := (Blk.new _ _ _).alloc _
  have BL : Blk ((w.alloc (.cells t.cs 25)).alloc (.cells (Array.replicate t.nl (.int .i64 0)) 3)) (w.heap.size + 1) 3 (Array.replicate t.nl (.int .i64 0)) := Blk.new1 _ _ _ _
  have E0 : Ext w ((w.alloc (.cells t.cs 25)).alloc (.cells (Array.replicate t.nl (.int .i64 0)) 3)) := ((Ext.refl _).alloc _).alloc _
  generalize (w.alloc (.cells t.cs 25)).alloc (.cells (Array.replicate t.nl (.int .i64 0)) 3) = w0 at *
  rw [ints_zero] at BL
  clear hmk
  generalize hg : w.heap.size = g at *
  have HG := hide hg
  clear hg
  go_loopw [13] (fun i wr => ∃ (k : Nat) (L : List Int), i = .int .i64 k ∧ k ≤ t.nl ∧ L.length = t.nl ∧ Hid (∀ j, j < k → L[j]? = some (j : Int)) ∧ Ext w wr ∧ Blk wr g 25 t.cs ∧ Blk wr (g + 1) 3 (ints L).toArray) (fun i _ => t.nl - (intOf i).toNat)
  case atStart => exact ⟨0, List.replicate t.nl 0, rfl, by omega, List.length_replicate, hide (fun j hj => absurd hj (by omega)), E0, BT, BL⟩
  case round =>
    clear E0 BT BL
    obtain ⟨k, L, rfl, q1, hL, HV, E1, BT, BL⟩ := hrel
    have HLL := hide hL
    by_cases hk : k < t.nl
    · have hkL : k < L.length := by omega
      have d2 := (BL.cell k).trans (ints_arr (List.getElem?_eq_getElem hkL))
      have f2 := BL.frozen k
      have l2 := BL.lt
      have hin : (0 : Int) ≤ (k : Int) ∧ (k : Int) < (t.nl : Int) := by omega
      generalize L[k] = y0 at *
      clear hL
      go_wp2_with fail
      have E2 := E1.set (p := ⟨g + 1, k, none⟩) (by have := unhide HG; simp; omega) (.int .i64 (k : Int))
      have BT2 := BT.far (p := ⟨g + 1, k, none⟩) (by simp) (.int .i64 (k : Int))
      have BL2 := BL.set_ k (.int .i64 (k : Int))
      rw [ints_set] at BL2
      have HV2 := hide (show ∀ j, j < k + 1 → (L.set k (k : Int))[j]? = some (j : Int) from fun j hj => by
        by_cases hjk : j = k
        · subst hjk; exact List.getElem?_set_self hkL
        · rw [List.getElem?_set_ne (by omega)]; exact unhide HV j (by omega))
      go_roundw
      case rel => exact ⟨k + 1, L.set k (k : Int), by go_num, by omega, by rw [List.length_set]; exact unhide HLL, HV2, E2, BT2, BL2⟩
      case measure => simp [intOf]; omega
    · have HV0 := hide (show ∀ j, j < t.nl → ∃ v : Nat, L[j]? = some (v : Int) ∧ LM ns (((t.nl : Nat) : Int) - 1).toNat j v from fun j hj => ⟨j, unhide HV j (by omega), LM_start (by have := unhide HL; omega) _ (by have := unhide HL; omega)⟩)
      have hkI : ¬ (k : Int) < (t.nl : Int) := by omega
      clear HV hL
      go_wp2_with fail
      go_loopw [5] (fun v wr => ∃ (x : Int) (L : List Int), v = .int .i64 x ∧ -1 ≤ x ∧ x < t.nl ∧ L.length = t.nl ∧ Hid (∀ j, j < t.nl → ∃ v : Nat, L[j]? = some (v : Int) ∧ LM ns x.toNat j v) ∧ Ext w wr ∧ Blk wr g 25 t.cs ∧ Blk wr (g + 1) 3 (ints L).toArray) (fun v _ => (intOf v + 1).toNat)
      case atStart => exact ⟨(t.nl : Int) - 1, L, rfl, by omega, by omega, unhide HLL, HV0, E1, BT, BL⟩
      case round =>
        clear E1 BT BL HV0 HLL
        obtain ⟨x, L2, rfl, x1, x2, hL2, HV, E1, BT, BL⟩ := hrel
        have HLL := hide hL2
        have c1 := BT.cell
        have l1 := BT.lt
        by_cases hx : 0 < x
        · obtain ⟨i1, rfl⟩ : ∃ i1 : Nat, x = (i1 : Int) := ⟨x.toNat, by omega⟩
          obtain ⟨m, hm1⟩ : ∃ m : Nat, i1 = m + 1 := ⟨i1 - 1, by omega⟩
          have hmn : i1 < ns.length := by have := unhide HL; omega
          have cu := fun w h => hide (up_any t ns i1 hmn w h hm')
          have hp := parN_lt ns i1
          rw [Int.toNat_natCast] at HV
          have hxs : ((i1 : Nat) : Int) - 1 = (m : Int) := by omega
          have HI1 := hide hm1
          have hmI : (0 : Int) ≤ (i1 : Int) ∧ (i1 : Int) < (t.nl : Int) := by omega
          by_cases h0 : 0 ≤ parN ns i1
          · obtain ⟨p, hpp⟩ : ∃ p : Nat, parN ns i1 = p := ⟨(parN ns i1).toNat, by omega⟩
            have hpn : p < t.nl := by have := unhide HL; omega
            obtain ⟨va, ha1, ha2⟩ := unhide HV p hpn
            obtain ⟨vb, hb1, hb2⟩ := unhide HV i1 (by omega)
            obtain ⟨mx, hmx⟩ : ∃ mx : Int, max (va : Int) (vb : Int) = mx := ⟨_, rfl⟩
            have hpL : p < L2.length := by rw [hL2]; exact hpn
            have HV2 := hide (show ∀ j, j < t.nl → ∃ v : Nat, (L2.set p mx)[j]? = some (v : Int) ∧ LM ns m j v from fun j hj => by
              have hpp' := hpp
              rw [hm1] at ha2 hb2 hpp'
              by_cases hjp : j = p
              · subst hjp
                refine ⟨if va < vb then vb else va, ?_, LM_step ha2 hb2 hpp'⟩
                rw [List.getElem?_set_self hpL, ← hmx]
                congr 1
                split <;> omega
              · obtain ⟨v, h1, h2⟩ := unhide HV j hj
                rw [hm1] at h2
                exact ⟨v, by rw [List.getElem?_set_ne (by omega)]; exact h1, LM_not h2 (by omega)⟩)
            rw [hpp] at cu
            have hpI : (0 : Int) ≤ (p : Int) ∧ (p : Int) < (t.nl : Int) := by omega
            have hp0 : (0 : Int) ≤ (p : Int) := by omega
            have HA := hide ha1
            have HB := hide hb1
            have HMX := hide hmx
            clear ha1 hb1 ha2 hb2 hmx hpp h0 hp hm1 hmn HV hL2 x1
            go_wp2_with fail
            refine (unhide (cu _ (h.ext E1))).mono ?_
            rintro e w2 ⟨rfl, hx2⟩
            replace E1 := E1.trans hx2
            replace BT := BT.ext hx2
            replace BL := BL.ext hx2
            clear hx2 c1 l1 cu
            have ca := (BL.cell p).trans (ints_arr (unhide HA))
            have cb := (BL.cell i1).trans (ints_arr (unhide HB))
            have fa := BL.frozen p
            have lg := BL.lt
            clear HA HB
            go_upto_region 12 with fail
            refine wp_region_linT (by kernel_rfl) (fun w' => (True)) (fun ii vv ww => match ii with | 0 => vv = .slice (some ⟨g + 1, 0, none⟩) t.nl t.nl | 1 => vv = .int .i64 ((p : Nat) : Int) | 2 => vv = .slice (some ⟨g + 1, 0, none⟩) t.nl t.nl | 3 => vv = .int .i64 ((p : Nat) : Int) | 4 => vv = .pointer (some ⟨g + 1, p, none⟩) | 5 => vv = .int .i64 (va : Int) | 6 => vv = .slice (some ⟨g + 1, 0, none⟩) t.nl t.nl | 7 => vv = .int .i64 ((i1 : Nat) : Int) | 8 => vv = .pointer (some ⟨g + 1, i1, none⟩) | 9 => vv = .int .i64 (vb : Int) | 10 => vv = .int .i64 mx | 11 => vv = .pointer (some ⟨g + 1, p, none⟩) | _ => True) (fun ii => match ii with | 4 => [(2, 35), (3, 36)] | 5 => [(4, 37)] | 8 => [(6, 39), (7, 40)] | 9 => [(8, 41)] | 10 => [(5, 38), (9, 42)] | 11 => [(0, 33), (1, 34)] | 12 => [(11, 44), (10, 43)] | _ => []) (fun ii => match ii with | 0 => [3] | 1 => [6] | 2 => [3] | 3 => [6] | 6 => [3] | 7 => [5] | _ => []) (fun ii => match ii with | 0 => [2, 3, 4, 6, 7, 8, 5, 9, 1, 10] | 1 => [2, 3, 4, 6, 7, 8, 5, 9, 0, 10] | 2 => [3, 6, 7, 8, 9, 0, 1] | 3 => [2, 6, 7, 8, 9, 0, 1] | 4 => [6, 7, 8, 9, 0, 1] | 5 => [6, 7, 8, 9, 0, 1] | 6 => [2, 3, 4, 7, 5, 0, 1] | 7 => [2, 3, 4, 6, 5, 0, 1] | 8 => [2, 3, 4, 5, 0, 1] | 9 => [2, 3, 4, 5, 0, 1] | 10 => [0, 1] | 11 => [10] | _ => []) [] [0, 0, 0, 0, 12, 28, 0, 0, 192, 448, 1020, 2047, 4095] (fun w0q => w0q = w2.drew) [12] (fun FT wT => wT = w2.drew.setCell ⟨g + 1, p, none⟩ (.int .i64 mx)) 12 46 rfl (by kernel_rfl) (by kernel_rfl) (.inl (by kernel_rfl)) (trivial) (rfl) ?_ ?_
            · rename_i hcont; clear hcont
              refine ⟨?_, ?_, ?_, ?_, ?_, ?_, ?_, ?_, ?_, ?_, ?_, ?_, ?_, trivial⟩
              · refine stepT_plain rfl ?_
                rintro F a w1 jE - ⟨t3, -⟩ iO K hK
                have t3 : a.tmps[3]? = some (.slice (some ⟨g + 1, 0, none⟩) t.nl t.nl) := t3
                go_simp
                exact hK _ _ jE rfl (fun _ _ _ h => h) (fun _ => by first | exact iO | rfl) (fun he => absurd he (by decide))
              · refine stepT_plain rfl ?_
                rintro F a w1 jE - ⟨t6, -⟩ iO K hK
                have t6 : a.tmps[6]? = some (.int .i64 ((p : Nat) : Int)) := t6
                go_simp
                exact hK _ _ jE rfl (fun _ _ _ h => h) (fun _ => by first | exact iO | rfl) (fun he => absurd he (by decide))
              · refine stepT_plain rfl ?_
                rintro F a w1 jE - ⟨t3, -⟩ iO K hK
                have t3 : a.tmps[3]? = some (.slice (some ⟨g + 1, 0, none⟩) t.nl t.nl) := t3
                go_simp
                exact hK _ _ jE rfl (fun _ _ _ h => h) (fun _ => by first | exact iO | rfl) (fun he => absurd he (by decide))
              · refine stepT_plain rfl ?_
                rintro F a w1 jE - ⟨t6, -⟩ iO K hK
                have t6 : a.tmps[6]? = some (.int .i64 ((p : Nat) : Int)) := t6
                go_simp
                exact hK _ _ jE rfl (fun _ _ _ h => h) (fun _ => by first | exact iO | rfl) (fun he => absurd he (by decide))
              · refine stepT_plain rfl ?_
                rintro F a w1 jE ⟨h2, t35, h3, t36, -⟩ - iO K hK
                have h2 : (F 2) = .slice (some ⟨g + 1, 0, none⟩) t.nl t.nl := h2
                rw [h2] at t35
                clear h2
                have h3 : (F 3) = .int .i64 ((p : Nat) : Int) := h3
                rw [h3] at t36
                clear h3
                go_simp
                exact hK _ _ jE rfl (fun _ _ _ h => h) (fun _ => by first | exact iO | rfl) (fun he => absurd he (by decide))
              · refine stepT_plain rfl ?_
                rintro F a w1 jE ⟨h4, t37, -⟩ - iO K hK
                have h4 : (F 4) = .pointer (some ⟨g + 1, p, none⟩) := h4
                rw [h4] at t37
                clear h4
                have c := (show w1.cell? ⟨g + 1, p, none⟩ = some (.int .i64 (va : Int)) by rw [iO]; exact ca)
                go_simp
                exact hK _ _ jE rfl (fun _ _ _ h => h) (fun _ => by first | exact iO | rfl) (fun he => absurd he (by decide))
              · refine stepT_plain rfl ?_
                rintro F a w1 jE - ⟨t3, -⟩ iO K hK
                have t3 : a.tmps[3]? = some (.slice (some ⟨g + 1, 0, none⟩) t.nl t.nl) := t3
                go_simp
                exact hK _ _ jE rfl (fun _ _ _ h => h) (fun _ => by first | exact iO | rfl) (fun he => absurd he (by decide))
              · refine stepT_plain rfl ?_
                rintro F a w1 jE - ⟨t5, -⟩ iO K hK
                have t5 : a.tmps[5]? = some (.int .i64 ((i1 : Nat) : Int)) := t5
                go_simp
                exact hK _ _ jE rfl (fun _ _ _ h => h) (fun _ => by first | exact iO | rfl) (fun he => absurd he (by decide))
              · refine stepT_plain rfl ?_
                rintro F a w1 jE ⟨h6, t39, h7, t40, -⟩ - iO K hK
                have h6 : (F 6) = .slice (some ⟨g + 1, 0, none⟩) t.nl t.nl := h6
                rw [h6] at t39
                clear h6
                have h7 : (F 7) = .int .i64 ((i1 : Nat) : Int) := h7
                rw [h7] at t40
                clear h7
                go_simp
                exact hK _ _ jE rfl (fun _ _ _ h => h) (fun _ => by first | exact iO | rfl) (fun he => absurd he (by decide))
              · refine stepT_plain rfl ?_
                rintro F a w1 jE ⟨h8, t41, -⟩ - iO K hK
                have h8 : (F 8) = .pointer (some ⟨g + 1, i1, none⟩) := h8
                rw [h8] at t41
                clear h8
                have c := (show w1.cell? ⟨g + 1, i1, none⟩ = some (.int .i64 (vb : Int)) by rw [iO]; exact cb)
                go_simp
                exact hK _ _ jE rfl (fun _ _ _ h => h) (fun _ => by first | exact iO | rfl) (fun he => absurd he (by decide))
              · refine stepT_plain rfl ?_
                rintro F a w1 jE ⟨h5, t38, h9, t42, -⟩ - iO K hK
                have h5 : (F 5) = .int .i64 (va : Int) := h5
                rw [h5] at t38
                clear h5
                have h9 : (F 9) = .int .i64 (vb : Int) := h9
                rw [h9] at t42
                clear h9
                have e1 := unhide HMX
                go_simp
                exact hK _ _ jE rfl (fun _ _ _ h => h) (fun _ => by first | exact iO | rfl) (fun he => absurd he (by decide))
              · refine stepT_plain rfl ?_
                rintro F a w1 jE ⟨h0, t33, h1, t34, -⟩ - iO K hK
                have h0 : (F 0) = .slice (some ⟨g + 1, 0, none⟩) t.nl t.nl := h0
                rw [h0] at t33
                clear h0
                have h1 : (F 1) = .int .i64 ((p : Nat) : Int) := h1
                rw [h1] at t34
                clear h1
                go_simp
                exact hK _ _ jE rfl (fun _ _ _ h => h) (fun _ => by first | exact iO | rfl) (fun he => absurd he (by decide))
              · refine stepT_plain rfl ?_
                rintro F a w1 jE ⟨h11, t44, h10, t43, -⟩ - iO K hK
                have h11 : (F 11) = .pointer (some ⟨g + 1, p, none⟩) := h11
                rw [h11] at t44
                clear h11
                have h10 : (F 10) = .int .i64 mx := h10
                rw [h10] at t43
                clear h10
                subst iO
                have c : w2.drew.cell? ⟨g + 1, p, none⟩ = some (.int .i64 (va : Int)) := ca
                have f : w2.drew.frozen? ⟨g + 1, p, none⟩ = false := fa
                go_simp
                exact hK undef _ trivial trivial (fun _ hj _ _ => (List.not_mem_nil hj).elim) (fun h => (h (by simp)).elim) (fun _ => rfl)
            · rintro F w9 jE - hT
              have hT := hT (by decide)
              subst hT
              simp only [putL, Act.put, Nat.reduceAdd, Nat.zero_add, List.setIfInBounds_toArray, List.set_cons_succ, List.set_cons_zero]
              have E2 := (E1.drew).set (p := ⟨g + 1, p, none⟩) (by have := unhide HG; simp; omega) (.int .i64 mx)
              have BT2 := (BT.drew).far (p := ⟨g + 1, p, none⟩) (by simp) (.int .i64 mx)
              have BL2 := (BL.drew).set_ p (.int .i64 mx)
              rw [ints_set] at BL2
              generalize w2.drew.setCell _ _ = w3 at *
              clear ca cb fa lg E1 BT BL jE
              go_wp2_with fail
              go_roundw
              case rel => exact ⟨(m : Int), L2.set p mx, by first | rfl | go_num | (simp; omega), by omega, by have := unhide HI1; omega, by rw [List.length_set]; exact unhide HLL, by rw [Int.toNat_natCast]; exact HV2, E2, BT2, BL2⟩
              case measure => simp [intOf]; omega
          · have hpp : parN ns i1 = -1 := by omega
            have HV2 := hide (show ∀ j, j < t.nl → ∃ v : Nat, L2[j]? = some (v : Int) ∧ LM ns m j v from fun j hj => by
              obtain ⟨v, h1, h2⟩ := unhide HV j hj
              rw [hm1] at h2 hpp
              exact ⟨v, h1, LM_not h2 (by omega)⟩)
            rw [hpp] at cu
            clear hpp h0 hp hm1 hmn HV hL2 x1
            go_wp2_with fail
            refine (unhide (cu _ (h.ext E1))).mono ?_
            rintro e w2 ⟨rfl, hx2⟩
            go_wp2_with fail
            go_roundw
            case rel => exact ⟨(m : Int), L2, by first | rfl | go_num | (simp; omega), by omega, by have := unhide HI1; omega, unhide HLL, by rw [Int.toNat_natCast]; exact HV2, E1.trans hx2, BT.ext hx2, BL.ext hx2⟩
            case measure => simp [intOf]; omega
        · have HO := hide (show L2 = lastsN ns by
            refine List.ext_getElem? fun j => ?_
            by_cases hj : j < ns.length
            · obtain ⟨v, h1, h2⟩ := unhide HV j (by have := unhide HL; omega)
              rw [show x.toNat = 0 by omega] at h2
              rw [lastsN_get hj, h1, LM_end hj h2]
            · rw [List.getElem?_eq_none (by have := unhide HL; omega), List.getElem?_eq_none (by rw [lastsN_len]; omega)])
          clear hL2 HV
          go_wp2_with fail
          go_ret
          have hlen : (lastsN ns).length = t.nl := by rw [← unhide HO]; exact unhide HLL
          refine ⟨some ⟨g + 1, 0, none⟩, t.nl, by rw [hlen]; rfl, ?_, E1⟩
          rw [hlen]
          have := BL.rd (n := t.nl) (by rw [List.size_toArray, ints_len]; exact unhide HLL)
          rw [unhide HO] at this
          simpa using this
end
end Go.Proofs.Ytnolbmfjgfojhaa
