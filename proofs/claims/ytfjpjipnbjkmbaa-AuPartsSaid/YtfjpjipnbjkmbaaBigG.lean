/- Numbers as lists of digits: the sum of a list (walk). -/
import Derived.Test.YtfjpjipnbjkmbaaBigF
import Derived.Test.YtfjpjipnbjkmbaaAuS
namespace Go.Proofs.Ytfjpjipnbjkmbaa
open Go.RowKit

theorem of_zs {x : Int} {m : Bool} {l : List Bool} (h : OfP x m l) : bigZ m l = x := by
  obtain ⟨h1, h2, _⟩ := h
  subst h2
  by_cases hx : x < 0
  · rw [decide_eq_true hx, bigZ_t, h1]; omega
  · rw [decide_eq_false hx, bigZ_f, h1]; omega
theorem ints_cell {w : World} {A : Option Addr} {n : Nat} {zs : List Int} (h : Rd w 1 A n (ints zs)) {k : Nat} (hk : k < n) : ∃ b off z, A = some ⟨b, off, none⟩ ∧ b < w.heap.size ∧ zs[k]? = some z ∧ w.cell? ⟨b, off + k, none⟩ = some (.int .i64 z) := by
  obtain ⟨b, off, u, rfl, hb, hu, hc⟩ := h.get hk
  unfold ints at hu
  rw [List.getElem?_map] at hu
  cases hq : zs[k]? with
  | none => simp [hq] at hu
  | some z => exact ⟨b, off, z, rfl, hb, rfl, by rw [hc]; simpa [hq] using hu.symm⟩

/-- what the loop of a sum has come to -/
structure BigSumRel (w wr : World) (g : Nat) (zs : List Int) (k : Nat) : Prop where
  ext : Ext w wr
  o : ∃ m A c l, Blk wr g 27 #[.bool m, .slice A l.length c] ∧ Rd wr 1 A l.length (bools l) ∧ bigZ m l = lsum (zs.take k) ∧ l.length ≤ 65 + k ∧ ∀ b off, A = some ⟨b, off, none⟩ → b ≠ g

set_option maxRecDepth 100000 in
set_option maxHeartbeats 8000000 in
theorem refsum_any (A : Option Addr) (n c : Nat) (zs : List Int) (w : World) (hr : Rd w 1 A n (ints zs)) (hz : I64s zs) (hn : n ≤ 1000) :
    Calls Try.prog 17 #[.slice A n c] w fun e w' => e = .returned (.tuple #[.int .i64 (cutV (lsum zs)), .bool (cutB (lsum zs))]) ∧ Ext w w' := by
  have hl : zs.length = n := by have := hr.len; simpa [ints] using this
  have HL := hide hl
  clear hl
  go_enter Try.func17, Try.ntmps17
  go_wp2_with fail
  have B0 : Blk (w.alloc (.cells #[.bool false, .slice none 0 0] 27)) w.heap.size 27 #[.bool false, .slice none 0 0] := Blk.new _ _ _
  have E0 : Ext w (w.alloc (.cells #[.bool false, .slice none 0 0] 27)) := (Ext.refl _).alloc _
  generalize w.alloc (.cells #[.bool false, .slice none 0 0] 27) = wa at *
  go_loopw [5] (fun i wr => ∃ k : Nat, k ≤ n ∧ i = .int .i64 k ∧ BigSumRel w wr w.heap.size zs k) (fun i _ => n - (intOf i).toNat)
  case atStart => exact ⟨0, Nat.zero_le _, rfl, E0, false, none, 0, [], B0, Rd.nil _ _ _, rfl, by simp, by intro b off h; cases h⟩
  case round =>
    clear B0 E0 wa
    obtain ⟨k, hk, rfl, E0, m, Ao, co, lo, Bo, Ro, hV, hLo, hne⟩ := hrel
    generalize hgo : w.heap.size = go at *
    have HGO := hide hgo
    clear hgo
    by_cases hlt : k < n
    · have hltI : (k : Int) < (n : Int) := by omega
      obtain ⟨b, off, z, rfl, hb, hzk, hc⟩ := ints_cell hr hlt
      have hbz := hz z (List.mem_of_getElem? hzk)
      have htk : lsum (zs.take (k + 1)) = bigZ m lo + z := by
        have hlt' : k < zs.length := by have := unhide HL; omega
        rw [lsum_take zs k hlt', hV]
        rw [List.getElem?_eq_getElem hlt'] at hzk
        injection hzk with hzk
        rw [hzk]
      have HT := hide htk
      have hcW : ∀ W : World, Ext w W → W.cell? ⟨b, off + k, none⟩ = some (.int .i64 z) := fun W h => (h.cells.1 b (off + k) hb).trans hc
      have HC := hide hcW
      clear hV htk hzk hr hcW hc
      generalize wr = W0 at *
      have lo0 := Bo.lt
      go_wp2_with fail
      refine wp_region_linI (by kernel_rfl) (fun w' => (ExtX W0 w' [go]) ∧ (∃ m9 A9 n9 c9, Blk w' go 27 #[.bool m9, .slice A9 n9 c9])) (fun ii vv ww => match ii with | 0 => vv = bigV m Ao lo.length co | 1 => vv = .slice (some ⟨b, off, none⟩) n c | 2 => vv = .int .i64 k | 3 => vv = .pointer (some ⟨b, off + k, none⟩) | 4 => vv = .int .i64 z | 5 => ∃ m0 A0 c0 l0, vv = bigV m0 A0 l0.length c0 ∧ Rd ww 1 A0 l0.length (bools l0) ∧ OfP z m0 l0 | 6 => ∃ m0 A0 c0 l0, vv = bigV m0 A0 l0.length c0 ∧ Dig W0 ww A0 c0 l0 ∧ ZP (bigZ m lo + z) (65 + k + 1) m0 l0 | 7 => ∃ m0 A0 c0 l0, Blk ww go 27 #[.bool m0, .slice A0 l0.length c0] ∧ Dig W0 ww A0 c0 l0 ∧ ZP (bigZ m lo + z) (65 + k + 1) m0 l0 | _ => True) (fun ii => match ii with | 3 => [(1, 14), (2, 15)] | 4 => [(3, 16)] | 5 => [(4, 17)] | 6 => [(0, 13), (5, 18)] | 7 => [(6, 19)] | _ => []) (fun ii => match ii with | 0 => [4] | 1 => [0] | 2 => [5] | 7 => [4] | _ => []) (fun ii => match ii with | 0 => [1, 2, 3, 4, 5] | 1 => [2, 0] | 2 => [1, 0] | 3 => [0] | 4 => [0] | 5 => [0] | _ => []) [7] [0, 0, 0, 6, 14, 30, 63, 127] (fun w0q => Blk w0q go 27 #[.bool m, .slice Ao lo.length co]) [7] 24 rfl (by kernel_rfl) (by kernel_rfl) (⟨ExtX.start _ _, _, _, _, _, Bo⟩) (Bo) ?_ ?_
      · rename_i hcont; clear hcont
        refine ⟨?_, ?_, ?_, ?_, ?_, ?_, ?_, ?_, trivial⟩
        · refine stepI_plain rfl ?_
          rintro F a w1 ⟨jE, jO⟩ - ⟨t4, -⟩ iO K hK
          have t4 : a.tmps[4]? = some (.pointer (some ⟨go, 0, none⟩)) := t4
          have c0 := iO.cell
          go_simp
          exact hK _ _ ⟨jE, jO⟩ rfl (fun _ _ _ h => h) (fun _ => iO)
        · refine stepI_plain rfl ?_
          rintro F a w1 ⟨jE, jO⟩ - ⟨t0, -⟩ iO K hK
          have t0 : a.tmps[0]? = some (.slice (some ⟨b, off, none⟩) n c) := t0
          go_simp
          exact hK _ _ ⟨jE, jO⟩ rfl (fun _ _ _ h => h) (fun _ => iO)
        · refine stepI_plain rfl ?_
          rintro F a w1 ⟨jE, jO⟩ - ⟨t5, -⟩ iO K hK
          have t5 : a.tmps[5]? = some (.int .i64 k) := t5
          go_simp
          exact hK _ _ ⟨jE, jO⟩ rfl (fun _ _ _ h => h) (fun _ => iO)
        · refine stepI_plain rfl ?_
          rintro F a w1 ⟨jE, jO⟩ ⟨h1, t14, h2, t15, -⟩ - iO K hK
          have h1 : (F 1) = .slice (some ⟨b, off, none⟩) n c := h1
          rw [h1] at t14
          clear h1
          have h2 : (F 2) = .int .i64 k := h2
          rw [h2] at t15
          clear h2
          go_simp
          exact hK _ _ ⟨jE, jO⟩ rfl (fun _ _ _ h => h) (fun _ => iO)
        · refine stepI_plain rfl ?_
          rintro F a w1 ⟨jE, jO⟩ ⟨h3, t16, -⟩ - iO K hK
          have h3 : (F 3) = .pointer (some ⟨b, off + k, none⟩) := h3
          rw [h3] at t16
          clear h3
          have hE' : Ext w w1 := jE.ext E0 (by have := unhide HGO; simp; omega)
          have hcc := unhide HC w1 hE'
          go_simp
          exact hK _ _ ⟨jE, jO⟩ rfl (fun _ _ _ h => h) (fun _ => iO)
        · refine stepI_plain rfl ?_
          rintro F a w1 ⟨jE, jO⟩ ⟨h4, t17, -⟩ - iO K hK
          have h4 : (F 4) = .int .i64 z := h4
          rw [h4] at t17
          clear h4
          go_simp
          with_reducible refine (of_any z hbz.1 hbz.2 _).mono ?_
          rintro e w2 ⟨m0, A0, c0, l0, rfl, hR0, k1, k2, hP0, hx⟩
          exact hK _ _ ⟨jE.trans hx, jO.imp fun _ ⟨A9, n9, c9, k⟩ => ⟨A9, n9, c9, k.ext hx⟩⟩ ⟨m0, A0, c0, l0, rfl, hR0, hP0⟩ (by intro jq hj uq h; have hj : jq ∈ [0] := hj; simp only [List.mem_singleton] at hj; subst hj; exact h) (fun _ => iO.ext hx)
        · refine stepI_plain rfl ?_
          rintro F a w1 ⟨jE, jO⟩ ⟨h0, t13, h5, t18, -⟩ - iO K hK
          have h0 : (F 0) = bigV m Ao lo.length co := h0
          rw [h0] at t13
          clear h0
          have h5 : ∃ m0 A0 c0 l0, (F 5) = bigV m0 A0 l0.length c0 ∧ Rd w1 1 A0 l0.length (bools l0) ∧ OfP z m0 l0 := h5
          obtain ⟨m1, A1, c1, l1, e1, hR1, hP1⟩ := h5
          rw [e1] at t18
          go_simp
          have hz1 := of_zs hP1
          have hl1 : l1.length ≤ 64 := hP1.2.2
          with_reducible refine (add_any m m1 Ao A1 lo.length co l1.length c1 lo l1 _ (jE.rd Ro (by simp; exact hne)) hR1 (by omega) (by omega)).mono ?_
          rintro e w2 ⟨m0, A0, c0, l0, rfl, hD, hZ, hx⟩
          exact hK _ _ ⟨jE.trans hx, jO.imp fun _ ⟨A9, n9, c9, k⟩ => ⟨A9, n9, c9, k.ext hx⟩⟩ ⟨m0, A0, c0, l0, rfl, ⟨hD.rd, hD.le, hD.mx, fun b off e => Nat.le_trans jE.size (hD.fr b off e)⟩, by rw [hz1] at hZ; exact ⟨hZ.1, hZ.2.1, hZ.2.2.1, by have := hZ.2.2.2; omega⟩⟩ (fun _ hj _ _ => (List.not_mem_nil hj).elim) (fun _ => iO.ext hx)
        · refine stepI_plain rfl ?_
          rintro F a w1 ⟨jE, jO⟩ ⟨h6, t19, -⟩ ⟨t4, -⟩ iO K hK
          have h6 : ∃ m0 A0 c0 l0, (F 6) = bigV m0 A0 l0.length c0 ∧ Dig W0 w1 A0 c0 l0 ∧ ZP (bigZ m lo + z) (65 + k + 1) m0 l0 := h6
          have t4 : a.tmps[4]? = some (.pointer (some ⟨go, 0, none⟩)) := t4
          obtain ⟨m0, A1, c1, l1, e0, hD, hZ⟩ := h6
          rw [e0] at t19
          obtain ⟨m9, A9, n9, c9, k⟩ := jO
          have c := k.cell
          have f := k.frozen
          clear iO
          go_simp
          exact hK undef _ ⟨(jE.set (by simp) _).set (by simp) _, ⟨_, _, _, _, (k.set_ 0 _).set_ 1 _⟩⟩ ⟨m0, A1, c1, l1, (k.set_ 0 _).set_ 1 _, (hD.set (by simp; omega) _).set (by simp; omega) _, hZ⟩ (fun _ hj _ _ => (List.not_mem_nil hj).elim) (fun h => (h (by simp)).elim)
      · rintro F W9 ⟨jE, jO⟩ ⟨h7, -⟩
        have h7 : ∃ m0 A0 c0 l0, Blk W9 go 27 #[.bool m0, .slice A0 l0.length c0] ∧ Dig W0 W9 A0 c0 l0 ∧ ZP (bigZ m lo + z) (65 + k + 1) m0 l0 := h7
        obtain ⟨m0, A0, c0, l0, B1, hD, hZ⟩ := h7
        simp only [putL, Act.put, Nat.reduceAdd, Nat.zero_add, List.setIfInBounds_toArray, List.set_cons_succ, List.set_cons_zero]
        have hx : Ext w W9 := jE.ext E0 (by have := unhide HGO; simp; omega)
        clear jE jO
        go_wp2_with fail
        go_roundw
        case rel => exact ⟨k + 1, by omega, by go_num, hx, m0, A0, c0, l0, B1, hD.rd, by rw [unhide HT]; exact hZ.1, by have := hZ.2.2.2; omega, fun b off e => by have := hD.fr b off e; omega⟩
        case measure => simp [intOf]; omega
    · obtain rfl : k = n := by omega
      have hS : zs.take k = zs := List.take_of_length_le (by have := unhide HL; omega)
      rw [hS] at hV
      have cc := hide (by have := refcut_any m Ao lo.length co lo wr Ro (by omega); rwa [hV] at this)
      have d0 := Bo.cell
      clear hS hV hz hr Ro
      obtain ⟨X, hX⟩ : ∃ X, cutV (lsum zs) = X := ⟨_, rfl⟩
      obtain ⟨p, hp⟩ : ∃ p, cutB (lsum zs) = p := ⟨_, rfl⟩
      rw [hX, hp] at cc
      have HX := hide (And.intro hX hp)
      clear hX hp
      go_wp2_with fail
      refine (unhide cc).mono ?_
      rintro e w3 ⟨rfl, hx⟩
      go_wp2_with fail
      go_ret2
      obtain ⟨q1, q2⟩ := unhide HX
      exact ⟨by rw [q1, q2]; rfl, E0.trans hx⟩
end Go.Proofs.Ytfjpjipnbjkmbaa
