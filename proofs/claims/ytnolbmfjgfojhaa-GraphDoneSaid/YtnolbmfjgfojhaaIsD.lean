/- Islands: of each node its island, the document's (walk). -/
import Derived.Test.YtnolbmfjgfojhaaIsC
namespace Go.Proofs.Ytnolbmfjgfojhaa
open Go.RowKit
/-- a node's island; -1: it is no box -/
def ofV (ns : List Nd) (i : Nat) : Int := if nK ns i = 3 then -1 else (isl ns i : Int)
def ofN (ns : List Nd) : List Int := (List.range ns.length).map (ofV ns)
theorem ofN_len (ns : List Nd) : (ofN ns).length = ns.length := by simp [ofN]
theorem ints_set (l : List Int) (k : Nat) (x : Int) : (ints l).toArray.setIfInBounds k (.int .i64 x) = (ints (l.set k x)).toArray := by
  simp [ints, List.map_set]
theorem ints_zero (n : Nat) : Array.replicate n (Value.int .i64 0) = (ints (List.replicate n 0)).toArray := by
  simp [ints]
theorem take_set {l m : List Int} {k : Nat} (x : Int) (h : l.take k = m) (hk : k < l.length) : (l.set k x).take (k + 1) = m ++ [x] := by
  rw [List.take_succ_eq_append_getElem (by simpa using hk), List.getElem_set_self, List.take_set_of_le (Nat.le_refl k), h]
theorem range_succ_map (f : Nat → Int) (k : Nat) : (List.range (k + 1)).map f = (List.range k).map f ++ [f k] := by
  rw [List.range_succ, List.map_append]; rfl
section
variable (t : Tr) (ns : List Nd)
set_option maxRecDepth 100000 in
set_option maxHeartbeats 4000000 in
theorem refof_any (hT : TOk ns) (w : World) (h : Rd w 44 t.na t.nl (nds ns)) (hm : t.nl ≤ 1000000) :
    Calls Try.prog 37 #[.agg t.cs] w (IntsOut w (ofN ns)) := by
  have hl := h.nlen
  have hm' : t.nl ≤ maxLen := by unfold maxLen; omega
  have hmk := make_ints t.nl hm
  have HL := hide hl
  have HT := hide hT
  clear hl hT
  go_enter Try.func37, Try.ntmps37
  go_wp2_with fail
  have BT : Blk ((w.alloc (.cells t.cs 25)).alloc (.cells (Array.replicate t.nl (.int .i64 0)) 3)) w.heap.size 25 t.cs := (Blk.new _ _ _).alloc _
  have BL : Blk ((w.alloc (.cells t.cs 25)).alloc (.cells (Array.replicate t.nl (.int .i64 0)) 3)) (w.heap.size + 1) 3 (Array.replicate t.nl (.int .i64 0)) := Blk.new1 _ _ _ _
  have E0 : Ext w ((w.alloc (.cells t.cs 25)).alloc (.cells (Array.replicate t.nl (.int .i64 0)) 3)) := ((Ext.refl _).alloc _).alloc _
  generalize (w.alloc (.cells t.cs 25)).alloc (.cells (Array.replicate t.nl (.int .i64 0)) 3) = w0 at *
  rw [ints_zero] at BL
  clear hmk
  go_loopw [4] (fun i wr => ∃ (k : Nat) (L : List Int), i = .int .i64 k ∧ k ≤ t.nl ∧ L.length = t.nl ∧ Hid (L.take k = (List.range k).map (ofV ns)) ∧ Ext w wr ∧ Blk wr w.heap.size 25 t.cs ∧ Blk wr (w.heap.size + 1) 3 (ints L).toArray) (fun i _ => t.nl - (intOf i).toNat)
  case atStart => exact ⟨0, List.replicate t.nl 0, rfl, by omega, List.length_replicate, hide rfl, E0, BT, BL⟩
  case round =>
    clear E0 BT BL
    obtain ⟨k, L, rfl, q1, hL, HV, E1, BT, BL⟩ := hrel
    have c1 := BT.cell
    have l1 := BT.lt
    have l2 := BL.lt
    have HLL := hide hL
    by_cases hk : k < t.nl
    · have hkL : k < L.length := by omega
      have d2 := (BL.cell k).trans (show (ints L).toArray[k]? = some (.int .i64 L[k]) by simpa using ints_get hkL)
      have f2 := BL.frozen k
      have hin : (0 : Int) ≤ (k : Int) ∧ (k : Int) < (t.nl : Int) := by omega
      have hkn : k < ns.length := by have := unhide HL; omega
      have cb := fun w h => hide (box_any t ns k w h hm')
      have ci := fun w h => hide (island_any t ns (unhide HT) k hkn w h hm')
      have HQ := hide (show boxI ns (k : Int) = decide (nK ns k ≠ 3) by rw [boxI, Int.toNat_natCast]; simp; omega)
      have HS := hide (range_succ_map (ofV ns) k)
      obtain ⟨q, hq⟩ : ∃ q, boxI ns (k : Int) = q := ⟨_, rfl⟩
      rw [hq] at cb
      have HQ2 := hide (show q = decide (nK ns k ≠ 3) by rw [← hq]; exact unhide HQ)
      clear hq HQ hL
      generalize L[k] = y0 at *
      go_wp2_with fail
      have E2 := E1.set (p := ⟨w.heap.size + 1, k, none⟩) (by simp) (.int .i64 (-1))
      have BT2 := BT.far (p := ⟨w.heap.size + 1, k, none⟩) (by simp) (.int .i64 (-1))
      have BL2 := BL.set_ k (.int .i64 (-1))
      rw [ints_set] at BL2
      refine (unhide (cb _ (h.ext E2))).mono ?_
      rintro e w2 ⟨rfl, hx⟩
      replace E2 := E2.trans hx
      replace BT2 := BT2.ext hx
      replace BL2 := BL2.ext hx
      clear hx c1 l1 l2 d2 f2 E1 BT BL
      have c1 := BT2.cell
      have l1 := BT2.lt
      have l2 := BL2.lt
      cases q
      · have HV2 := hide (show (L.set k (-1)).take (k + 1) = (List.range (k + 1)).map (ofV ns) by
          rw [take_set _ (unhide HV) hkL, unhide HS]
          have : nK ns k = 3 := by simpa using unhide HQ2
          rw [show ofV ns k = -1 by rw [ofV, if_pos this]])
        go_wp2_with fail
        go_roundw
        case rel => exact ⟨k + 1, L.set k (-1), by go_num, by omega, by rw [List.length_set]; exact unhide HLL, HV2, E2, BT2, BL2⟩
        case measure => simp [intOf]; omega
      · have HV2 := hide (show ((L.set k (-1)).set k (isl ns k : Int)).take (k + 1) = (List.range (k + 1)).map (ofV ns) by
          rw [List.set_set, take_set _ (unhide HV) hkL, unhide HS]
          have : nK ns k ≠ 3 := by simpa using unhide HQ2
          rw [show ofV ns k = (isl ns k : Int) by rw [ofV, if_neg this]])
        go_wp2_with fail
        refine (unhide (ci _ (h.ext E2))).mono ?_
        rintro e w3 ⟨rfl, hx⟩
        replace E2 := E2.trans hx
        replace BT2 := BT2.ext hx
        replace BL2 := BL2.ext hx
        clear hx c1 l1 l2
        have c1 := BT2.cell
        have l1 := BT2.lt
        have l2 := BL2.lt
        have d2 := (BL2.cell k).trans (show (ints (L.set k (-1))).toArray[k]? = some (.int .i64 (-1)) by
          have hk2 : k < (L.set k (-1)).length := by simpa using hkL
          have := ints_get hk2
          simpa using this)
        have f2 := BL2.frozen k
        generalize isl ns k = y1 at *
        go_wp2_with fail
        have E3 := E2.set (p := ⟨w.heap.size + 1, k, none⟩) (by simp) (.int .i64 (y1 : Int))
        have BT3 := BT2.far (p := ⟨w.heap.size + 1, k, none⟩) (by simp) (.int .i64 (y1 : Int))
        have BL3 := BL2.set_ k (.int .i64 (y1 : Int))
        rw [ints_set] at BL3
        go_roundw
        case rel => exact ⟨k + 1, (L.set k (-1)).set k (y1 : Int), by go_num, by omega, by rw [List.length_set, List.length_set]; exact unhide HLL, HV2, E3, BT3, BL3⟩
        case measure => simp [intOf]; omega
    · have hkl : k = ns.length := by have := unhide HL; omega
      have HO := hide (show L = ofN ns by
        have h1 := unhide HV
        rw [List.take_of_length_le (by omega)] at h1
        rw [h1, ofN, hkl])
      clear hkl hL
      go_wp2_with fail
      go_ret
      have hlen : (ofN ns).length = t.nl := by rw [← unhide HO]; exact unhide HLL
      refine ⟨some ⟨w.heap.size + 1, 0, none⟩, t.nl, by rw [hlen]; rfl, ?_, E1⟩
      rw [hlen]
      have := BL.rd (n := t.nl) (by rw [List.size_toArray, ints_len]; exact unhide HLL)
      rw [unhide HO] at this
      simpa using this
end
end Go.Proofs.Ytnolbmfjgfojhaa
