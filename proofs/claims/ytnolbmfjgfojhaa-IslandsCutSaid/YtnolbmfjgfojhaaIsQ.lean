/- Islands: the law IslandsCut (walk). -/
import Derived.Test.YtnolbmfjgfojhaaAgr
import Derived.Test.YtnolbmfjgfojhaaIsF
import Derived.Test.YtnolbmfjgfojhaaWkB
namespace Go.Proofs.Ytnolbmfjgfojhaa
open Go.RowKit
theorem Rd.take {w : World} {k n : Nat} {A : Option Addr} {xs : List Value} (h : Rd w k A n xs) {m : Nat} (hm : m ≤ n) : Rd w k A m (xs.take (m * k)) :=
  ⟨by rw [List.length_take, h.len]; exact Nat.min_eq_left (Nat.mul_le_mul_right k hm), fun h0 => by
    obtain ⟨b, off, ha, hb, hc⟩ := h.at_ (by omega)
    refine ⟨b, off, ha, hb, fun j u hu => hc j u ?_⟩
    rw [List.getElem?_take] at hu
    split at hu
    · exact hu
    · cases hu⟩
theorem nds_take (l : List Nd) (m : Nat) (hm : m ≤ l.length) : (nds l).take (m * 44) = nds (l.take m) := by
  have h := nds_append (l.take m) (l.drop m)
  rw [List.take_append_drop] at h
  rw [h, List.take_left' (by rw [nds_len, List.length_take]; congr 1; omega)]
theorem ints_take (l : List Int) (m : Nat) : (ints l).take (m * 1) = ints (l.take m) := by
  rw [Nat.mul_one]; simp [ints, List.map_take]
section
variable (t : Tr) (ns : List Nd) (av : List Int)
set_option maxRecDepth 100000 in
set_option maxHeartbeats 16000000 in
theorem law_isCut (x : Int) (hx : 0 ≤ x ∧ x ≤ 65535) (w : World) (h : TrIn w t ns av) (hm : t.nl ≤ maxLen) (ha : t.al ≤ maxLen) (hcp : t.nl ≤ t.nc) :
    Calls Try.prog 11 #[.agg t.cs, .int .u16 x] w fun e w' => e = .returned (.bool true) ∧ Ext w w' := by
  have cm := fun w h => hide (small_any t ns av w h hm ha)
  go_enter Try.func11, Try.ntmps11
  go_wp2_with fail
  refine (unhide (cm _ (h.ext ((Ext.refl _).alloc _)))).mono ?_
  rintro e w1 ⟨q, rfl, hq, hx⟩
  have BT : Blk w1 w.heap.size 25 t.cs := (Blk.new _ _ _).ext hx
  have E1 : Ext w w1 := ((Ext.refl _).alloc _).trans hx
  have HQ := hide hq
  clear hx cm hq
  cases q
  · go_wp2_with fail
    refine (works18_any _).mono ?_
    rintro e w2 ⟨rfl, hx⟩
    go_wp2_with fail
    go_ret
    exact ⟨rfl, E1.trans hx⟩
  obtain ⟨hn, hck⟩ := unhide HQ rfl
  have hT := TOk.of hn hck
  have hl := h.nodes.nlen
  have hpos := hT.pos
  have hnl : t.nl ≤ 300 := by omega
  have hN := h.nodes
  obtain ⟨b, off, hna, hb, _⟩ := hN.at_ (by omega)
  obtain ⟨na, nl, nc, aa, al, ac, view⟩ := t
  simp only at hna hm ha hl hpos hnl hN BT hcp
  have hkc : (0 : Int) ≤ (nc : Int) := by omega
  subst hna
  obtain ⟨k0, hk0⟩ : ∃ k0 : Nat, x.tmod (nl : Int) = k0 := ⟨(x.tmod (nl : Int)).toNat, by
    rw [Int.tmod_eq_emod_of_nonneg hx.1]; have := Int.emod_nonneg x (b := (nl : Int)) (by omega); omega⟩
  have hk1 : k0 < nl := by
    have := Int.emod_lt_of_pos x (b := (nl : Int)) (by omega)
    rw [Int.tmod_eq_emod_of_nonneg hx.1] at hk0
    omega
  obtain ⟨k, hk⟩ : ∃ k, k0 + 1 = k := ⟨_, rfl⟩
  have hkI : (k0 : Int) + 1 = (k : Int) := by omega
  have hk2 : k ≤ nl := by omega
  have HT := hide hT
  have hTk := hT.take (k := k) (by omega) (by omega)
  have HTK := hide hTk
  have hNk : Rd w 44 (some ⟨b, off, none⟩) k (nds (ns.take k)) := by rw [← nds_take ns k (by omega)]; exact hN.take hk2
  have cO := fun w h => hide (of_fit ⟨some ⟨b, off, none⟩, nl, nc, aa, al, ac, view⟩ ns (unhide HT) w h (show nl ≤ 1000000 by omega))
  have cP := fun w h => hide (of_fit ⟨some ⟨b, off, none⟩, k, nc, aa, al, ac, view⟩ (ns.take k) (unhide HTK) w h (show k ≤ 1000000 by omega))
  have HOF := hide (ofN_take (ns := ns) (k := k) (by omega))
  have HOL := hide (ofN_len ns)
  have HL := hide hl
  have nlz : (((nl : Nat) : Int) == 0) = false := by simp; omega
  have nlz2 : ¬ ((nl : Nat) : Int) = 0 := by omega
  have cW := fun w => hide (works18_any w)
  have hxl : 0 ≤ x := hx.1
  have hxh : x ≤ 65535 := hx.2
  have HK1 := hide hk1
  have HK := hide hk
  clear HQ hn hck hm ha h hl hT hTk hx hk hk1 hpos
  generalize hg : w.heap.size = g at *
  have HG := hide hg
  clear hg
  have c1 := BT.cell
  have l1 := BT.lt
  have hkn : (0 : Int) ≤ (k : Int) ∧ (k : Int) ≤ (nc : Int) := by omega
  have hkn2 : ¬ (nc : Int) < (k : Int) := by omega
  have hkn3N := hk2
  have hkn3 : ¬ (nl : Int) < (k : Int) := by omega
  go_upto_region 4 with fail
  go_upto_region 6 with fail
  have BP : Blk (w1.alloc (.cells (Tr.cs ⟨some ⟨b, off, none⟩, k, nc, aa, al, ac, view⟩) 25)) w1.heap.size 25 (Tr.cs ⟨some ⟨b, off, none⟩, k, nc, aa, al, ac, view⟩) := Blk.new _ _ _
  replace BT := BT.alloc (.cells (Tr.cs ⟨some ⟨b, off, none⟩, k, nc, aa, al, ac, view⟩) 25)
  replace E1 := E1.alloc (.cells (Tr.cs ⟨some ⟨b, off, none⟩, k, nc, aa, al, ac, view⟩) 25)
  clear c1 l1
  generalize w1.alloc (.cells (Tr.cs ⟨some ⟨b, off, none⟩, k, nc, aa, al, ac, view⟩) 25) = w2 at *
  generalize w1.heap.size = gp at *
  clear w1
  have c1 := BT.cell
  have l1 := BT.lt
  have c2 := BP.cell
  have l2 := BP.lt
  go_wp2_with fail
  refine (unhide (cO _ (hN.ext E1))).mono ?_
  rintro e w3 ⟨A, rfl, R1, hx⟩
  replace E1 := E1.trans hx
  replace BT := BT.ext hx
  replace BP := BP.ext hx
  clear hx c1 l1 c2 l2
  have c1 := BT.cell
  have l1 := BT.lt
  have c2 := BP.cell
  have l2 := BP.lt
  go_wp2_with fail
  refine (unhide (cP _ (hNk.ext E1))).mono ?_
  rintro e w4 ⟨A2, rfl, R2, hx⟩
  replace E1 := E1.trans hx
  replace BT := BT.ext hx
  replace R1 := R1.ext hx
  clear hx c1 l1 c2 l2 BP
  have c1 := BT.cell
  have l1 := BT.lt
  rw [unhide HOF] at R2
  have hpos : 0 < nl := by have := unhide HK1; omega
  obtain ⟨ba, oa, rfl, -, -⟩ := R1.at_ hpos
  have R3 := R1.take hkn3N
  rw [ints_take] at R3
  have cS := hide (same_yes (some ⟨ba, oa, none⟩) A2 k nl k k ((ofN ns).take k) w4 R3 R2 (by unfold maxLen; omega) (by unfold maxLen; omega))
  clear R1 R2 R3 hpos
  go_wp2_with fail
  refine (unhide cS).mono ?_
  rintro e w5 ⟨rfl, hx⟩
  replace E1 := E1.trans hx
  clear hx c1 l1 cS
  go_wp2_with fail
  refine (unhide (cW _)).mono ?_
  rintro e w6 ⟨rfl, hx⟩
  go_wp2_with fail
  go_ret
  exact ⟨rfl, E1.trans hx⟩
end
end Go.Proofs.Ytnolbmfjgfojhaa
