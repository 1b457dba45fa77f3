/- Trees: the last ones below, the document's (walk). -/
import Derived.Test.YtnolbmfjgfojhaaTyA
namespace Go.Proofs.Ytnolbmfjgfojhaa
open Go.RowKit
theorem lastK_le (ns : List Nd) (i : Nat) : ∀ k, k ≤ i + 1 → lastK ns i k = i
  | 0, _ => rfl
  | k + 1, h => by rw [lastK, if_neg (by omega), lastK_le ns i k (by omega)]
section
variable (t : Tr) (ns : List Nd)
set_option maxRecDepth 100000 in
set_option maxHeartbeats 4000000 in
theorem reflast_any (w : World) (h : Rd w 44 t.na t.nl (nds ns)) (hm : t.nl ≤ 1000000) :
    Calls Try.prog 27 #[.agg t.cs] w (IntsOut w (lastsN ns)) := by
  have hl := h.nlen
  have hm' : t.nl ≤ maxLen := by unfold maxLen; omega
  have hmk := make_ints t.nl hm
  have HL := hide hl
  clear hl
  go_enter Try.func27, Try.ntmps27
  go_wp2_with fail
  have BT : Blk ((w.alloc (.cells t.cs 25)).alloc (.cells (Array.replicate t.nl (.int .i64 0)) 3)) w.heap.size 25 t.cs := (Blk.new _ _ _).alloc _
  have BL : Blk ((w.alloc (.cells t.cs 25)).alloc (.cells (Array.replicate t.nl (.int .i64 0)) 3)) (w.heap.size + 1) 3 (Array.replicate t.nl (.int .i64 0)) := Blk.new1 _ _ _ _
  have E0 : Ext w ((w.alloc (.cells t.cs 25)).alloc (.cells (Array.replicate t.nl (.int .i64 0)) 3)) := ((Ext.refl _).alloc _).alloc _
  generalize (w.alloc (.cells t.cs 25)).alloc (.cells (Array.replicate t.nl (.int .i64 0)) 3) = w0 at *
  rw [ints_zero] at BL
  clear hmk
  generalize hg : w.heap.size = g at *
  have HG := hide hg
  clear hg
  go_loopw [4] (fun i wr => ∃ (k : Nat) (L : List Int), i = .int .i64 k ∧ k ≤ t.nl ∧ L.length = t.nl ∧ Hid (∀ j, j < k → L[j]? = some (lastK ns j ns.length : Int)) ∧ Ext w wr ∧ Blk wr g 25 t.cs ∧ Blk wr (g + 1) 3 (ints L).toArray) (fun i _ => t.nl - (intOf i).toNat)
  case atStart => exact ⟨0, List.replicate t.nl 0, rfl, by omega, List.length_replicate, hide (fun j hj => absurd hj (by omega)), E0, BT, BL⟩
  case round =>
    clear E0 BT BL
    obtain ⟨i, L, rfl, q1, hL, HV, E1, BT, BL⟩ := hrel
    have HLL := hide hL
    have c1 := BT.cell
    have l1 := BT.lt
    by_cases hi : i < t.nl
    · have hiL : i < L.length := by omega
      have d2 := (BL.cell i).trans (ints_arr (List.getElem?_eq_getElem hiL))
      have f2 := BL.frozen i
      have l2 := BL.lt
      have hin : (0 : Int) ≤ (i : Int) ∧ (i : Int) < (t.nl : Int) := by omega
      generalize L[i] = y0 at *
      clear hL
      go_upto_region 7 with fail
      have E2 := E1.set (p := ⟨g + 1, i, none⟩) (by have := unhide HG; simp; omega) (.int .i64 (i : Int))
      have BT2 := BT.far (p := ⟨g + 1, i, none⟩) (by simp) (.int .i64 (i : Int))
      have BL2 := BL.set_ i (.int .i64 (i : Int))
      rw [ints_set] at BL2
      have HV2 := hide (show (∀ j, j < i → (L.set i (i : Int))[j]? = some (lastK ns j ns.length : Int)) ∧ (L.set i (i : Int))[i]? = some (lastK ns i (i + 1) : Int) from
        ⟨fun j hj => by rw [List.getElem?_set_ne (by omega)]; exact unhide HV j hj, by rw [List.getElem?_set_self hiL, lastK_le ns i (i + 1) (Nat.le_refl _)]⟩)
      generalize wr.setCell _ _ = w1 at *
      have HLL2 := hide (show (L.set i (i : Int)).length = t.nl by rw [List.length_set]; exact unhide HLL)
      generalize L.set i (i : Int) = L1 at *
      clear E1 BT BL d2 f2 l2 c1 l1 HV HLL hiL
      go_loopw [5] (fun v wr => ∃ (k : Nat) (L : List Int), v = .int .i64 k ∧ i < k ∧ k ≤ t.nl ∧ L.length = t.nl ∧ Hid ((∀ j, j < i → L[j]? = some (lastK ns j ns.length : Int)) ∧ L[i]? = some (lastK ns i k : Int)) ∧ Ext w wr ∧ Blk wr g 25 t.cs ∧ Blk wr (g + 1) 3 (ints L).toArray) (fun v _ => t.nl - (intOf v).toNat)
      case atStart => exact ⟨i + 1, L1, by go_num, by omega, by omega, unhide HLL2, HV2, E2, BT2, BL2⟩
      case round =>
        clear E2 BT2 BL2 HV2 HLL2
        obtain ⟨k, L, rfl, k1, k2, hL, HV, E1, BT, BL⟩ := hrel
        have HLL := hide hL
        have c1 := BT.cell
        have l1 := BT.lt
        by_cases hk : k < t.nl
        · have hkn : k < ns.length := by have := unhide HL; omega
          have hiL : i < L.length := by omega
          have cb := fun w h => hide (below_any t ns k hkn (i : Int) w h hm')
          have HS := hide (show lastK ns i (k + 1) = if i < k ∧ bel ns (i : Int) k = true then k else lastK ns i k from rfl)
          obtain ⟨q, hq⟩ : ∃ q, bel ns (i : Int) k = q := ⟨_, rfl⟩
          rw [hq] at cb HS
          have hin2 : (0 : Int) ≤ (k : Int) ∧ (k : Int) < (t.nl : Int) := by omega
          clear hq hL
          cases q
          · have HV3 := hide (show (∀ j, j < i → L[j]? = some (lastK ns j ns.length : Int)) ∧ L[i]? = some (lastK ns i (k + 1) : Int) from ⟨(unhide HV).1, by rw [unhide HS, if_neg (by simp)]; exact (unhide HV).2⟩)
            go_wp2_with fail
            refine (unhide (cb _ (h.ext E1))).mono ?_
            rintro e w2 ⟨rfl, hx⟩
            go_wp2_with fail
            go_roundw
            case rel => exact ⟨k + 1, L, by go_num, by omega, by omega, unhide HLL, HV3, E1.trans hx, BT.ext hx, BL.ext hx⟩
            case measure => simp [intOf]; omega
          · have HV3 := hide (show (∀ j, j < i → (L.set i (k : Int))[j]? = some (lastK ns j ns.length : Int)) ∧ (L.set i (k : Int))[i]? = some (lastK ns i (k + 1) : Int) from
              ⟨fun j hj => by rw [List.getElem?_set_ne (by omega)]; exact (unhide HV).1 j hj, by rw [unhide HS, if_pos ⟨k1, rfl⟩, List.getElem?_set_self hiL]⟩)
            go_wp2_with fail
            refine (unhide (cb _ (h.ext E1))).mono ?_
            rintro e w2 ⟨rfl, hx⟩
            replace E1 := E1.trans hx
            replace BT := BT.ext hx
            replace BL := BL.ext hx
            clear hx c1 l1
            have d2 := (BL.cell i).trans (ints_arr (List.getElem?_eq_getElem hiL))
            have f2 := BL.frozen i
            have l2 := BL.lt
            generalize L[i] = y0 at *
            go_wp2_with fail
            have E2 := E1.set (p := ⟨g + 1, i, none⟩) (by have := unhide HG; simp; omega) (.int .i64 (k : Int))
            have BT2 := BT.far (p := ⟨g + 1, i, none⟩) (by simp) (.int .i64 (k : Int))
            have BL2 := BL.set_ i (.int .i64 (k : Int))
            rw [ints_set] at BL2
            go_roundw
            case rel => exact ⟨k + 1, L.set i (k : Int), by go_num, by omega, by omega, by rw [List.length_set]; exact unhide HLL, HV3, E2, BT2, BL2⟩
            case measure => simp [intOf]; omega
        · have HV3 := hide (show ∀ j, j < i + 1 → L[j]? = some (lastK ns j ns.length : Int) from fun j hj => by
            by_cases hji : j = i
            · rw [hji, (unhide HV).2, show k = ns.length by have := unhide HL; omega]
            · exact (unhide HV).1 j (by omega))
          have hkI : ¬ (k : Int) < (t.nl : Int) := by omega
          clear hL HV
          go_wp2_with fail
          go_roundw
          case rel => exact ⟨i + 1, L, by go_num, by omega, unhide HLL, HV3, E1, BT, BL⟩
          case measure => simp [intOf]; omega
    · have HO := hide (show L = lastsN ns by
        refine List.ext_getElem? fun j => ?_
        by_cases hj : j < ns.length
        · rw [lastsN_get hj]; exact unhide HV j (by have := unhide HL; omega)
        · rw [List.getElem?_eq_none (by have := unhide HL; omega), List.getElem?_eq_none (by rw [lastsN_len]; omega)])
      clear hL
      go_wp2_with fail
      go_ret
      have hlen : (lastsN ns).length = t.nl := by rw [← unhide HO]; exact unhide HLL
      refine ⟨some ⟨g + 1, 0, none⟩, t.nl, by rw [hlen]; rfl, ?_, E1⟩
      rw [hlen]
      have := BL.rd (n := t.nl) (by rw [List.size_toArray, ints_len]; exact unhide HLL)
      rw [unhide HO] at this
      simpa using this
end
end Go.Proofs.Ytnolbmfjgfojhaa
