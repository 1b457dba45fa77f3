/- Layer 19: the order of the items, and their rows (walks). -/
import Derived.Test.YtkkkdjkjggofkaaCsI
import Derived.Laws.OwnMore
namespace Go.Proofs.Ytkkkdjkjggofkaa
open Go.RowKit
/-- a number is pushed through a sorted row -/
def slotL (L : List Nat) (k y : Nat) : List Nat := L.take k ++ y :: L.drop k
theorem slot_len {L : List Nat} {k y : Nat} (hk : k ≤ L.length) : (slotL L k y).length = L.length + 1 := by simp [slotL]; omega
theorem slot_set {L : List Nat} {k y z : Nat} (hk : k ≤ L.length) : (slotL L k y).set k z = slotL L k z := by
  unfold slotL
  rw [List.set_append_right _ _ (by rw [List.length_take]; omega), List.length_take, Nat.min_eq_left hk, Nat.sub_self, List.set_cons_zero]
theorem slot_down {L : List Nat} {p u : Nat} (hu : L[p]? = some u) : slotL L (p + 1) u = slotL L p u := by
  have hp := (List.getElem?_eq_some_iff.1 hu).1
  have hv := (List.getElem?_eq_some_iff.1 hu).2
  unfold slotL
  rw [takeS hu, List.append_assoc, List.drop_eq_getElem_cons hp, hv]
  rfl
theorem slot_get {L : List Nat} {p y u : Nat} (hu : L[p]? = some u) : (slotL L (p + 1) y)[p]? = some u := by
  have hp := (List.getElem?_eq_some_iff.1 hu).1
  unfold slotL
  rw [List.getElem?_append_left (by rw [List.length_take]; omega), List.getElem?_take_of_lt (by omega), hu]
theorem slot_perm {L : List Nat} {i k : Nat} (h : L.Perm (List.range i)) : (slotL L k i).Perm (List.range (i + 1)) := by
  have h1 : (slotL L k i).Perm (i :: (L.take k ++ L.drop k)) := List.perm_middle
  rw [List.take_append_drop] at h1
  have h2 : (List.range i ++ [i]).Perm (i :: List.range i) := by simp
  rw [List.range_succ]
  exact h1.trans ((h.cons i).trans h2.symm)
theorem castL_set (l : List Nat) (k z : Nat) : (ints (castL l)).set k (.int .i64 (z : Int)) = ints (castL (l.set k z)) := by simp [ints, castL, List.map_set]
def OrderIs (w : World) (n : Nat) (e : Ending) (w' : World) : Prop := ∃ A cap L, e = .returned (.slice A n cap) ∧ Rd w' 1 A n (ints (castL L)) ∧ L.Perm (List.range n) ∧ Ext w w'
set_option maxRecDepth 100000 in
set_option maxHeartbeats 16000000 in
theorem order_any (A : Option Addr) (n cap : Nat) (ks : List Sty) (w : World) (rk : Rd w 43 A n (recs styC ks)) (hn : n ≤ 60) :
    Calls Try.prog 19 #[.slice A n cap] w (OrderIs w n) := by
  have hkl : ks.length = n := by have := rk.len; rw [recs_len styC_len] at this; omega
  have HKL := hide hkl
  clear hkl
  obtain ⟨i7, hi7, hz7, hs7, hb7⟩ := info_bnd ji_info
  have H7 := hide (And.intro hi7 (And.intro hz7 (And.intro hs7 hb7)))
  clear hi7 hz7 hs7 hb7
  go_enter Try.func19, Try.ntmps19
  go_wp2_with fail
  go_loopw [3, 4] (fun v3 v4 wr => ∃ (i : Nat) (B : Option Addr) (d : Nat) (L : List Nat), v4 = .int .i64 i ∧ i ≤ n ∧ v3 = .slice B i d ∧ Hid (L.Perm (List.range i)) ∧ wr.ownsRow w.heap.size 3 1 (.slice B i d) i (ints (castL L)) ∧ Ext w wr) (fun _ v4 _ => n - (intOf v4).toNat)
  case atStart => exact ⟨0, none, 0, [], rfl, by omega, rfl, hide (List.Perm.refl _), ⟨rfl, .inl ⟨rfl, rfl⟩⟩, Ext.refl _⟩
  case round =>
    obtain ⟨i, B, d, L, rfl, hi, rfl, HP, OW, E⟩ := hrel
    by_cases hin : i < n
    · obtain ⟨b, off, rfl, _, _⟩ := rk.at_ (by omega)
      have hiI : (0 : Int) ≤ (i : Int) ∧ (i : Int) < (n : Int) ∧ (n : Int) ≤ 60 := by omega
      have hEs := E.size
      have hLl : L.length = i := by have := (unhide HP).length_eq; rwa [List.length_range] at this
      have hLb : ∀ u ∈ L, u < i := fun u hu => List.mem_range.1 ((unhide HP).mem_iff.1 hu)
      have HLL := hide hLl
      have HLB := hide hLb
      clear hLl hLb
      go_upto_region 7 with (first
        | (at_builtin
           refine wpList_append_rd rfl (.tmp 14) (.tmp 16) _ rfl w.heap.size 3 i7 _ 1 i7.bytes Try.underlying50 (unhide H7).1 (unhide H7).2.1 (unhide H7).2.2.1 rfl rfl (by omega) _ i (ints (castL L)) rfl (own_far OW ((Ext.refl _).alloc _)) _ 1 1 [.int .i64 (i : Int)] rfl (Rd.one _ _) (by simp [Value.oneCell']) (by simp only [maxLen]; omega) (bytes_ok (by omega) (unhide H7).2.2.2) (by simp; omega) ?_
           intro B7 d7 w5 own7 g7 at7))
      have ha : Ext wr (wr.alloc (.cells #[.int .i64 (i : Int)] 3)) := (Ext.refl _).alloc _
      replace E := (E.trans ha).grown g7 (fun q e => (OW.lt q e).1)
      obtain ⟨g, rfl, hgw⟩ : ∃ g, B7 = some ⟨g, 0, none⟩ ∧ w.heap.size ≤ g := by
        rcases own7.2 with ⟨_, h⟩ | ⟨gl, cap, cur, h1, h2, _⟩
        · omega
        · injection h1 with h1 _ _
          exact ⟨gl, h1, h2⟩
      replace OW : w5.ownsRow w.heap.size 3 1 (.slice (some ⟨g, 0, none⟩) (i + 1) d7) (i + 1) (ints (castL (slotL L i i))) := by
        rw [slotL, List.take_of_length_le (by rw [unhide HLL]; omega), List.drop_of_length_le (by rw [unhide HLL]; omega)]
        simpa [castL, ints] using own7
      clear own7 g7 at7 ha hEs
      go_wp2_with fail
      skip
      go_loopw [5] (fun v5 wr => ∃ (k y : Nat), v5 = .int .i64 k ∧ k ≤ i ∧ wr.ownsRow w.heap.size 3 1 (.slice (some ⟨g, 0, none⟩) (i + 1) d7) (i + 1) (ints (castL (slotL L k y))) ∧ Ext w wr) (fun v5 _ => (intOf v5).toNat)
      case atStart => exact ⟨i, i, rfl, by omega, OW, E⟩
      case round =>
        clear OW E
        obtain ⟨k, y, rfl, hk, OW, E⟩ := hrel
        have lg : g < wr.heap.size := (OW.lt g rfl).2
        obtain ⟨t, ht⟩ : ∃ t, ks[i]? = some t := ⟨_, List.getElem?_eq_getElem (by have := unhide HKL; omega)⟩
        have hti := (rk.ext E).rec_ styC_len ht (by omega)
        obtain ⟨b', off', hA, hb, hmi⟩ := hti
        injection hA with hA
        injection hA with hA hA2
        subst hA hA2
        have di := hmi 37 _ rfl
        clear hmi ht
        rcases Nat.eq_zero_or_pos k with hk0 | hkp
        · have hkz : ¬ (0 : Int) < (k : Int) := by omega
          have hdn : decide (0 < k) = false := decide_eq_false (by omega)
          clear hk0
          have hdk : decide ((0 : Int) < (k : Int)) = false := decide_eq_false (by omega)
          have hki : (0 : Int) ≤ (k : Int) ∧ (k : Int) < (i : Int) + 1 := by omega
          go_upto_region 7 with fail
          go_quiet (fail)
          clear lg di hb
          have hx : Ext wr (wr.drewN nq) := (Ext.refl _).drewN _
          replace OW := own_far OW hx
          replace E := E.trans hx
          generalize wr.drewN nq = wq at *
          have lg : g < wq.heap.size := (OW.lt g rfl).2
          have fg := OW.frozenAt k
          obtain ⟨old, hold⟩ : ∃ v, wq.cell? ⟨g, k, none⟩ = some v := ⟨_, by rw [OW.cellAt k (by omega)]; exact List.getElem?_eq_getElem (by rw [ints_len, castL_len, slot_len (by rw [unhide HLL]; omega), unhide HLL]; omega)⟩
          go_wp2_with fail
          go_roundw
          case rel =>
            have OWF := (OW.stored k (.int .i64 ((i : Nat) : Int))).1
            rw [castL_set, slot_set (by rw [unhide HLL]; omega)] at OWF
            have EF := E.set (p := ⟨g, k, none⟩) hgw (.int .i64 ((i : Nat) : Int))
            exact ⟨i + 1, _, d7, slotL L k i, by go_num, by omega, rfl, hide (slot_perm (unhide HP)), OWF, EF⟩
          case measure => simp [intOf]; omega
        · obtain ⟨p, hp⟩ : ∃ p, k = p + 1 := ⟨k - 1, by omega⟩
          obtain ⟨u, hu⟩ : ∃ u, L[p]? = some u := ⟨_, List.getElem?_eq_getElem (by rw [unhide HLL]; omega)⟩
          have hul := unhide HLB u (List.mem_of_getElem? hu)
          obtain ⟨tu, htu⟩ : ∃ t, ks[u]? = some t := ⟨_, List.getElem?_eq_getElem (by have := unhide HKL; omega)⟩
          have htj := (rk.ext E).rec_ styC_len htu (by omega)
          obtain ⟨b', off', hA, _, hmj⟩ := htj
          injection hA with hA
          injection hA with hA hA2
          subst hA hA2
          have dj := hmj 37 _ rfl
          clear hmj htu
          have HKP := hide hp
          have HU := hide hu
          have cu : wr.cell? ⟨g, p, none⟩ = some (.int .i64 (u : Int)) := by
            rw [OW.cellAt p (by omega), hp, ints, List.getElem?_map, castL_get (slot_get hu)]; rfl
          have hk0 : (0 : Int) < (k : Int) := by omega
          have hdk : decide ((0 : Int) < (k : Int)) = true := decide_eq_true (by omega)
          have hdn : decide (0 < k) = true := decide_eq_true (by omega)
          have hki : (0 : Int) ≤ (k : Int) ∧ (k : Int) < (i : Int) + 1 ∧ (0 : Int) ≤ (p : Int) ∧ (p : Int) < (i : Int) + 1 ∧ (0 : Int) ≤ (u : Int) ∧ (u : Int) < (n : Int) := by omega
          have hk1 : (k : Int) - 1 = (p : Int) := by omega
          have HK1 := hide hk1
          clear hp hu hkp
          by_cases hord : t.order < tu.order
          · go_upto_region 7 with fail
            go_quiet (fail)
            clear lg di hb dj
            replace cu : (wr.drewN nq).cell? ⟨g, p, none⟩ = some (.int .i64 (u : Int)) := cu
            have hx : Ext wr (wr.drewN nq) := (Ext.refl _).drewN _
            replace OW := own_far OW hx
            replace E := E.trans hx
            generalize wr.drewN nq = wq at *
            have lg : g < wq.heap.size := (OW.lt g rfl).2
            have fg := OW.frozenAt k
            obtain ⟨old, hold⟩ : ∃ v, wq.cell? ⟨g, k, none⟩ = some v := ⟨_, by rw [OW.cellAt k (by omega)]; exact List.getElem?_eq_getElem (by rw [ints_len, castL_len, slot_len (by rw [unhide HLL]; omega), unhide HLL]; omega)⟩
            go_wp2_with fail
            go_roundw
            case rel =>
              have OWF := (OW.stored k (.int .i64 ((u : Nat) : Int))).1
              rw [castL_set, slot_set (by rw [unhide HLL]; omega)] at OWF
              have EF := E.set (p := ⟨g, k, none⟩) hgw (.int .i64 ((u : Nat) : Int))
              rw [show slotL L k u = slotL L p u from by rw [unhide HKP]; exact slot_down (unhide HU)] at OWF
              exact ⟨p, u, by go_num, by omega, OWF, EF⟩
            case measure => have := unhide HKP; simp [intOf]; omega
          · go_upto_region 7 with fail
            go_quiet (fail)
            clear lg di hb dj cu hk1
            have hx : Ext wr (wr.drewN nq) := (Ext.refl _).drewN _
            replace OW := own_far OW hx
            replace E := E.trans hx
            generalize wr.drewN nq = wq at *
            have lg : g < wq.heap.size := (OW.lt g rfl).2
            have fg := OW.frozenAt k
            obtain ⟨old, hold⟩ : ∃ v, wq.cell? ⟨g, k, none⟩ = some v := ⟨_, by rw [OW.cellAt k (by omega)]; exact List.getElem?_eq_getElem (by rw [ints_len, castL_len, slot_len (by rw [unhide HLL]; omega), unhide HLL]; omega)⟩
            go_wp2_with fail
            go_roundw
            case rel =>
              have OWF := (OW.stored k (.int .i64 ((i : Nat) : Int))).1
              rw [castL_set, slot_set (by rw [unhide HLL]; omega)] at OWF
              have EF := E.set (p := ⟨g, k, none⟩) hgw (.int .i64 ((i : Nat) : Int))
              exact ⟨i + 1, _, d7, slotL L k i, by go_num, by omega, rfl, hide (slot_perm (unhide HP)), OWF, EF⟩
            case measure => simp [intOf]; omega
    · obtain rfl : i = n := by omega
      have R1 := Rd.of_own OW
      go_wp2_with fail
      go_ret
      exact ⟨B, d, L, rfl, R1, unhide HP, E⟩
end Go.Proofs.Ytkkkdjkjggofkaa
