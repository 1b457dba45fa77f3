/- Layer 2: the small functions of the laws (walks). -/
import Derived.Test.YtphckjnmbbjenaaEdQ
import Derived.Test.YtphckjnmbbjenaaEdP
import Derived.Handy
namespace Go.Proofs.Ytphckjnmbbjenaa
open Go.RowKit

def nearB (r : Rc) : Bool := decide (-1073741824 ≤ r.x ∧ r.x ≤ 1073741824) && decide (-1073741824 ≤ r.y ∧ r.y ≤ 1073741824) && decide (-1073741824 ≤ r.w ∧ r.w ≤ 1073741824) && decide (-1073741824 ≤ r.h ∧ r.h ≤ 1073741824)
theorem near_of {r : Rc} (h : nearB r = true) : r.Near 1073741824 := by
  simp [nearB] at h
  constructor <;> omega
theorem nearB_t {r : Rc} (h : ∀ i, i < 4 → -1073741824 ≤ r.nth i ∧ r.nth i ≤ 1073741824) : nearB r = true := by
  have h0 := h 0 (by omega)
  have h1 := h 1 (by omega)
  have h2 := h 2 (by omega)
  have h3 := h 3 (by omega)
  simp only [Rc.nth] at h0 h1 h2 h3
  simp [nearB, h0, h1, h2, h3]
theorem nearB_f {r : Rc} {i : Nat} (hi : i < 4) (h : r.nth i < -1073741824 ∨ 1073741824 < r.nth i) : nearB r = false := by
  cases hb : nearB r with
  | false => rfl
  | true =>
    obtain ⟨x1, x2, y1, y2, w1, w2, h1, h2⟩ := near_of hb
    rcases nat4 hi with rfl | rfl | rfl | rfl <;> simp only [Rc.nth] at h <;> omega

set_option maxHeartbeats 1000000 in
theorem near_any (r : Rc) (w : World) : Calls Try.prog 25 #[.agg r.cs] w fun e w' => e = .returned (.bool (nearB r)) ∧ Ext w w' := by
  have HR := hide (rfl : nearB r = nearB r)
  have hcell : ∀ (W : World) (g k : Nat), Blk W g 2 r.cs → k < 4 → W.cell? ⟨g, k, none⟩ = some (.int .i64 (r.nth k)) := fun W g k h hk => by rw [h.cell]; exact nth_cell r k hk
  have hf : ∀ i, i < 4 → (r.nth i < -1073741824 ∨ 1073741824 < r.nth i) → nearB r = false := fun i hi h => nearB_f hi h
  have ht : (∀ i, i < 4 → -1073741824 ≤ r.nth i ∧ r.nth i ≤ 1073741824) → nearB r = true := nearB_t
  have HC := hide hcell
  have HF := hide hf
  have HT := hide ht
  clear hcell hf ht
  go_enter Try.func25, Try.ntmps25
  go_wp2_with fail
  have B1 : Blk ((w.alloc (.cells r.cs 33)).alloc (.cells r.cs 2)) (w.heap.size + 1) 2 r.cs := Blk.new1 _ _ _ _
  have E1 : Ext w ((w.alloc (.cells r.cs 33)).alloc (.cells r.cs 2)) := ((Ext.refl _).alloc _).alloc _
  generalize ((w.alloc (.cells r.cs 33)).alloc (.cells r.cs 2)) = wa at *
  go_loop [4] (fun i => ∃ k : Nat, k ≤ 4 ∧ i = .int .i64 k ∧ ∀ i, i < k → -1073741824 ≤ r.nth i ∧ r.nth i ≤ 1073741824) (fun i => 4 - (intOf i).toNat)
  case atStart => exact ⟨0, by omega, rfl, fun i h => by omega⟩
  case round =>
    obtain ⟨k, hk, rfl, hall⟩ := hrel
    have HA := hide hall
    clear hall
    by_cases hk4 : k < 4
    · have hkI : (k : Int) < 4 := by omega
      have hkI0 : (0 : Int) ≤ (k : Int) := by omega
      have hc := unhide HC _ _ k B1 hk4
      have HN : ∀ Z, r.nth k = Z → Hid (r.nth k = Z) := fun _ h => h
      generalize hZ : r.nth k = Z at *
      have HZ := hide hZ
      clear hZ HN
      by_cases h1 : 1073741824 < Z
      · go_wp2_with fail
        go_ret
        exact ⟨ret1b (unhide HF k hk4 (.inr (by rw [unhide HZ]; exact h1))).symm, E1⟩
      · by_cases h2 : Z < -1073741824
        · go_wp2_with fail
          go_ret
          exact ⟨ret1b (unhide HF k hk4 (.inl (by rw [unhide HZ]; exact h2))).symm, E1⟩
        · go_wp2_with fail
          go_round
          case rel =>
            refine ⟨k + 1, by omega, by go_num, fun i hi => ?_⟩
            by_cases hik : i = k
            · subst hik; rw [unhide HZ]; omega
            · exact unhide HA i (by omega)
          case measure => simp [intOf]; omega
    · obtain rfl : k = 4 := by omega
      go_wp2_with fail
      go_ret
      exact ⟨ret1b (unhide HT (unhide HA)).symm, E1⟩

set_option maxHeartbeats 1000000 in
theorem moved_any (r : Rc) (dx dy : Int) (hn : r.Near 17179869184) (h1 : -2147483648 ≤ dx ∧ dx ≤ 2147483647) (h2 : -2147483648 ≤ dy ∧ dy ≤ 2147483647) (w : World) :
    Calls Try.prog 26 #[.agg r.cs, .int .i32 dx, .int .i32 dy] w fun e w' => e = .returned (.agg (movedR r dx dy).cs) ∧ Ext w w' := by
  obtain ⟨x, y, p, q⟩ := r
  obtain ⟨a1, a2, a3, a4, a5, a6, a7, a8⟩ := hn
  simp only at a1 a2 a3 a4 a5 a6 a7 a8
  obtain ⟨d1, d2⟩ := h1
  obtain ⟨d3, d4⟩ := h2
  have e1 : IntKind.i64.wrap dx = dx := IntWalk.i64_in _ (by omega)
  have e2 : IntKind.i64.wrap dy = dy := IntWalk.i64_in _ (by omega)
  go_enter Try.func26, Try.ntmps26
  go_wp2_with fail
  go_returns
  exact ⟨rfl, ((Ext.refl _).alloc _).alloc _⟩

def smallR (r : Rc) : Rc := ⟨r.x.tmod 10, r.y.tmod 10, r.w.tmod 12, r.h.tmod 12⟩
set_option maxHeartbeats 1000000 in
theorem small_any (r : Rc) (w : World) :
    Calls Try.prog 23 #[.agg r.cs] w fun e w' => e = .returned (.agg (smallR r).cs) ∧ Ext w w' := by
  obtain ⟨x, y, p, q⟩ := r
  go_enter Try.func23, Try.ntmps23
  go_wp2_with fail
  go_returns
  exact ⟨rfl, ((Ext.refl _).alloc _).alloc _⟩

def hasB (r : Rc) (x y : Int) : Bool := decide (r.x ≤ x ∧ x < r.x + r.w) && decide (r.y ≤ y ∧ y < r.y + r.h)
set_option maxHeartbeats 1000000 in
theorem has_any (r : Rc) (x y : Int) (hn : r.Near 17179869184) (h1 : -1000 ≤ x ∧ x ≤ 1000) (h2 : -1000 ≤ y ∧ y ≤ 1000) (w : World) :
    Calls Try.prog 24 #[.agg r.cs, .int .i64 x, .int .i64 y] w fun e w' => e = .returned (.bool (hasB r x y)) ∧ Ext w w' := by
  obtain ⟨rx, ry, p, q⟩ := r
  obtain ⟨a1, a2, a3, a4, a5, a6, a7, a8⟩ := hn
  simp only at a1 a2 a3 a4 a5 a6 a7 a8
  obtain ⟨d1, d2⟩ := h1
  obtain ⟨d3, d4⟩ := h2
  go_enter Try.func24, Try.ntmps24
  go_wp2_with fail
  all_goals go_ret
  all_goals refine ⟨ret1b ?_, (Ext.refl _).alloc _⟩
  all_goals (rw [Bool.eq_iff_iff]; simp [hasB]; try omega)
end Go.Proofs.Ytphckjnmbbjenaa
