/- Layer 1: the law on common factors (walk). -/
import Derived.Test.YtfjpjipnbjkmbaaAuF
namespace Go.Proofs.Ytfjpjipnbjkmbaa
open Go.RowKit

theorem flo_neg (a c : Int) (hc : c ≠ 0) : flo (-a) (-c) = flo a c := by
  unfold flo
  by_cases h : 0 < c
  · rw [if_neg (by omega), if_pos h, Int.neg_neg, Int.neg_neg]
  · rw [if_pos (by omega), if_neg h]
theorem flo_mul (a c k : Int) (hc : c ≠ 0) (hk : k ≠ 0) : flo (a * k) (c * k) = flo a c := by
  have key : ∀ a c k : Int, c ≠ 0 → 0 < k → flo (a * k) (c * k) = flo a c := by
    intro a c k hc hk
    unfold flo
    by_cases h : 0 < c
    · rw [if_pos (Int.mul_pos h hk), if_pos h, Int.mul_ediv_mul_of_pos_left _ _ hk]
    · have : c * k ≤ 0 := Int.mul_nonpos_of_nonpos_of_nonneg (by omega) (by omega)
      rw [if_neg (by omega), if_neg h, ← Int.neg_mul, ← Int.neg_mul, Int.mul_ediv_mul_of_pos_left _ _ hk]
  rcases Int.lt_or_gt_of_ne hk with h | h
  · have := key a c (-k) hc (by omega)
    rw [Int.mul_neg, Int.mul_neg, flo_neg _ _ (Int.mul_ne_zero hc hk)] at this
    exact this
  · exact key a c k hc h

set_option maxHeartbeats 2000000 in
theorem law_common (a b c k : Int) (ha : -2147483648 ≤ a ∧ a ≤ 2147483647) (hb : -2147483648 ≤ b ∧ b ≤ 2147483647) (hc : -2147483648 ≤ c ∧ c ≤ 2147483647) (hk : -2147483648 ≤ k ∧ k ≤ 2147483647) (w : World) :
    Calls Try.prog 9 #[.int .i32 a, .int .i32 b, .int .i32 c, .int .i32 k] w fun e w' => e = .returned (.bool true) ∧ Ext w w' := by
  obtain ⟨a1, a2⟩ := ha
  obtain ⟨b1, b2⟩ := hb
  obtain ⟨c1, c2⟩ := hc
  obtain ⟨k1, k2⟩ := hk
  obtain ⟨p1, p2⟩ := mul_bd (a := a) (b := k) (A := 2147483648) (B := 2147483648) (by omega) (by omega) (by omega) (by omega) (by omega)
  obtain ⟨q1, q2⟩ := mul_bd (a := c) (b := k) (A := 2147483648) (B := 2147483648) (by omega) (by omega) (by omega) (by omega) (by omega)
  -- the parts
  obtain ⟨n1, n2⟩ := tmod_bd b 10001 (by omega)
  obtain ⟨n, hn⟩ : ∃ n, b.tmod 10001 = n := ⟨_, rfl⟩
  rw [hn] at n1 n2
  obtain ⟨x1, x2⟩ := mul_bd (a := a) (b := n) (A := 2147483648) (B := 10000) (by omega) (by omega) (by omega) (by omega) (by omega)
  have cp := fun w => part_any a n (by omega) (by omega) (by omega) (by omega) w
  have cq := fun w => part_any a (10000 - n) (by omega) (by omega) (by omega) (by omega) w
  have ex : a * (10000 - n) = 10000 * a - a * n := by rw [Int.mul_sub, Int.mul_comm a 10000]
  rw [ex] at cq
  generalize a * n = X at *
  rw [(cut_in (by omega) (by omega)).1, (cut_in (by omega) (by omega)).2] at cp cq
  have hpq : X / 10000 + (10000 * a - X) / 10000 = a ∨ X / 10000 + (10000 * a - X) / 10000 = a - 1 := by omega
  have bp : -50000000000 ≤ X / 10000 ∧ X / 10000 ≤ 50000000000 := by omega
  have bq : -50000000000 ≤ (10000 * a - X) / 10000 ∧ (10000 * a - X) / 10000 ≤ 50000000000 := by omega
  generalize X / 10000 = p at *
  generalize (10000 * a - X) / 10000 = q at *
  obtain ⟨bp1, bp2⟩ := bp
  obtain ⟨bq1, bq2⟩ := bq
  clear ex x1 x2
  -- the quotients
  have hV : ∃ (V : Int) (f : Bool), (∀ w, Calls Try.prog 18 #[.int .i64 a, .int .i64 b, .int .i64 c] w fun e w' => e = .returned (.tuple #[.int .i64 V, .bool f]) ∧ Ext w w') ∧
      (∀ w, Calls Try.prog 18 #[.int .i64 b, .int .i64 a, .int .i64 c] w fun e w' => e = .returned (.tuple #[.int .i64 V, .bool f]) ∧ Ext w w') ∧
      (∀ w, Calls Try.prog 18 #[.int .i64 (-a), .int .i64 b, .int .i64 (-c)] w fun e w' => e = .returned (.tuple #[.int .i64 V, .bool f]) ∧ Ext w w') ∧
      (k ≠ 0 → ∀ w, Calls Try.prog 18 #[.int .i64 (a * k), .int .i64 b, .int .i64 (c * k)] w fun e w' => e = .returned (.tuple #[.int .i64 V, .bool f]) ∧ Ext w w') := by
    by_cases h0 : c = 0
    · subst h0
      refine ⟨0, true, fun w => muldiv_0 a b w, fun w => muldiv_0 b a w, fun w => muldiv_0 (-a) b w, fun _ w => ?_⟩
      rw [Int.zero_mul]
      exact muldiv_0 (a * k) b w
    · refine ⟨cutV (flo (a * b) c), cutB (flo (a * b) c), fun w => muldiv_any a b c (by omega) (by omega) (by omega) (by omega) (by omega) (by omega) h0 w, fun w => ?_, fun w => ?_, fun hk w => ?_⟩
      · have := muldiv_any b a c (by omega) (by omega) (by omega) (by omega) (by omega) (by omega) h0 w
        rwa [Int.mul_comm b a] at this
      · have := muldiv_any (-a) b (-c) (by omega) (by omega) (by omega) (by omega) (by omega) (by omega) (by omega) w
        rwa [Int.neg_mul, flo_neg _ _ h0] at this
      · have := muldiv_any (a * k) b (c * k) (by omega) (by omega) (by omega) (by omega) (by omega) (by omega) (Int.mul_ne_zero h0 hk) w
        rwa [Int.mul_right_comm, flo_mul _ _ _ h0 hk] at this
  obtain ⟨V, f, v1, v2, v3, v4⟩ := hV
  obtain ⟨AK, hAK⟩ : ∃ x, a * k = x := ⟨_, rfl⟩
  obtain ⟨CK, hCK⟩ : ∃ x, c * k = x := ⟨_, rfl⟩
  rw [hAK] at p1 p2 v4
  rw [hCK] at q1 q2 v4
  have EA : wrap64 (a * k) = AK := by rw [hAK]; simp only [wrap64]; omega
  have EC : wrap64 (c * k) = CK := by rw [hCK]; simp only [wrap64]; omega
  clear hAK hCK
  obtain ⟨m, hm⟩ : ∃ m, 10000 - n = m := ⟨_, rfl⟩
  rw [hm] at cq
  have m1 : -100000 ≤ m ∧ m ≤ 100000 := by omega
  by_cases hk0 : k = 0
  · have e1 : (k != 0) = false := by simpa using hk0
    clear v4 hk0 p1 p2 q1 q2 EA EC
    rcases hpq with h | h
    all_goals
      go_enter Try.func9, Try.ntmps9
      go_wp2_with (first
        | (go_at_call 18; ((first | (with_reducible refine (v1 _).mono ?_) | (with_reducible refine (v2 _).mono ?_) | (with_reducible refine (v3 _).mono ?_)); rintro e w' ⟨rfl, hb0⟩))
        | (go_at_call 20; ((first | (with_reducible refine (cp _).mono ?_) | (with_reducible refine (cq _).mono ?_)); rintro e w' ⟨rfl, hb0⟩))
        | (go_at_call 15; ((with_reducible refine (works_any _).mono ?_); rintro e w' ⟨rfl, hb⟩)))
      all_goals go_ret
      all_goals refine ⟨rfl, ?_⟩
      all_goals ((repeat (first | exact Ext.refl _ | (with_reducible refine Ext.trans ?_ (by assumption)))); done)
  · have e1 : (k != 0) = true := by simpa using hk0
    have v4 := v4 hk0
    clear hk0
    rcases hpq with h | h
    all_goals
      go_enter Try.func9, Try.ntmps9
      go_wp2_with (first
        | (go_at_call 18; ((first | (with_reducible refine (v1 _).mono ?_) | (with_reducible refine (v2 _).mono ?_) | (with_reducible refine (v3 _).mono ?_) | (with_reducible refine (v4 _).mono ?_)); rintro e w' ⟨rfl, hb0⟩))
        | (go_at_call 20; ((first | (with_reducible refine (cp _).mono ?_) | (with_reducible refine (cq _).mono ?_)); rintro e w' ⟨rfl, hb0⟩))
        | (go_at_call 15; ((with_reducible refine (works_any _).mono ?_); rintro e w' ⟨rfl, hb⟩)))
      all_goals go_ret
      all_goals refine ⟨rfl, ?_⟩
      all_goals ((repeat (first | exact Ext.refl _ | (with_reducible refine Ext.trans ?_ (by assumption)))); done)
end Go.Proofs.Ytfjpjipnbjkmbaa
