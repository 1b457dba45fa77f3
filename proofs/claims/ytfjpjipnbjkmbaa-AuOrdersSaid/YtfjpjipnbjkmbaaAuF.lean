/- Layer 1: the law on floors; the law on common factors (walks). -/
import Derived.Test.YtfjpjipnbjkmbaaAuW
namespace Go.Proofs.Ytfjpjipnbjkmbaa
open Go.RowKit

theorem tmod_bd (a k : Int) (hk : 0 < k) : -k < a.tmod k ∧ a.tmod k < k := by
  rw [tmod_lit]
  split
  · have := Int.emod_lt_of_pos a hk; have := Int.emod_nonneg a (b := k) (by omega); omega
  · have := Int.emod_lt_of_pos (-a) hk; have := Int.emod_nonneg (-a) (b := k) (by omega); omega
theorem mul_bd {a b A B : Int} (hA : 0 ≤ A) (h1 : -A ≤ a) (h2 : a ≤ A) (h3 : -B ≤ b) (h4 : b ≤ B) : -(A * B) ≤ a * b ∧ a * b ≤ A * B := by
  have h : (a * b).natAbs ≤ A.toNat * B.toNat := by
    rw [Int.natAbs_mul]; exact Nat.mul_le_mul (by omega) (by omega)
  have e : ((A.toNat * B.toNat : Nat) : Int) = A * B := by
    rw [Int.natCast_mul, Int.toNat_of_nonneg hA, Int.toNat_of_nonneg (by omega)]
  omega
theorem flo_pos (a b : Int) (h : 0 < b) : flo a b = a / b := by unfold flo; rw [if_pos h]
theorem cut_in {v : Int} (h : -1099511627776 ≤ v) (h' : v ≤ 1099511627776) : cutV v = v ∧ cutB v = false := ⟨by unfold cutV; rw [if_neg (by omega), if_neg (by omega)], by simp [cutB]; omega⟩
theorem tdiv_gt {p c : Int} (hc : 0 < c) (h : 1099511627776 < p / c) : p.tdiv c = p / c := by
  have : 0 ≤ p := by
    rcases Int.lt_or_le p 0 with h1 | h1
    · have := Int.ediv_neg_of_neg_of_pos h1 hc; omega
    · exact h1
  exact Int.tdiv_eq_ediv_of_nonneg this
theorem tdiv_lt {p c : Int} (hc : 0 < c) (h : p / c < -1099511627776) : p.tdiv c ≤ -1099511627776 := by
  have hf := floor_eq p c hc
  split at hf <;> omega

set_option maxHeartbeats 1000000 in
theorem law_floors (a b c : Int) (c2 : c ≤ 9223372036854775807) (w : World) : Calls Try.prog 6 #[.int .i64 a, .int .i64 b, .int .i64 c] w fun e w' => e = .returned (.bool true) ∧ Ext w w' := by
  by_cases hc : c < 1
  · go_enter Try.func6, Try.ntmps6
    go_wp2_with (first | (go_at_call 15; ((with_reducible refine (works_any _).mono ?_); rintro e w' ⟨rfl, hb⟩)))
    go_ret
    exact ⟨rfl, hb⟩
  · obtain ⟨a1, a2⟩ := tmod_bd a 2147483648 (by omega)
    obtain ⟨b1, b2⟩ := tmod_bd b 1073741824 (by omega)
    obtain ⟨A, hA⟩ : ∃ x, a.tmod 2147483648 = x := ⟨_, rfl⟩
    obtain ⟨B, hB⟩ : ∃ x, b.tmod 1073741824 = x := ⟨_, rfl⟩
    rw [hA] at a1 a2
    rw [hB] at b1 b2
    obtain ⟨p1, p2⟩ := mul_bd (A := 2147483648) (B := 1073741824) (by omega) (by omega) (by omega) (by omega) (by omega : B ≤ 1073741824) (a := A)
    have cm := fun w => muldiv_any A B c (by omega) (by omega) (by omega) (by omega) (by omega) c2 (by omega) w
    rw [flo_pos _ _ (by omega)] at cm
    obtain ⟨P, hP⟩ : ∃ x, A * B = x := ⟨_, rfl⟩
    rw [hP] at cm p1 p2
    obtain ⟨d1, d2, d3⟩ := div_facts P c (by omega)
    obtain ⟨D, hD⟩ : ∃ x, P.tdiv c = x := ⟨_, rfl⟩
    have D1 : 1099511627776 < P / c → D = P / c := fun h => hD ▸ tdiv_gt (by omega) h
    have D2 : P / c < -1099511627776 → D ≤ -1099511627776 := fun h => hD ▸ tdiv_lt (by omega) h
    have tb := tdiv_bound P c (by omega) (by omega) (by omega)
    rw [hD] at tb
    obtain ⟨tb1, tb2⟩ := tb
    obtain ⟨R, hR⟩ : ∃ x, P % c = x := ⟨_, rfl⟩
    rw [hR] at d1 d2 d3
    generalize P / c = F at *
    have hc0 : 1 ≤ c := by omega
    by_cases h1 : 1099511627776 < F
    · have hD1 := D1 h1
      have h2 : 1099511627776 < D := by omega
      rw [(cut_hi h1).1, (cut_hi h1).2] at cm
      clear D1 D2 hD1 d1 hR h1
      go_enter Try.func6, Try.ntmps6
      go_wp2_with (first
        | (go_at_call 18; ((with_reducible refine (cm _).mono ?_); rintro e w' ⟨rfl, hb0⟩))
        | (go_at_call 15; ((with_reducible refine (works_any _).mono ?_); rintro e w' ⟨rfl, hb⟩)))
      go_ret
      exact ⟨rfl, hb0.trans hb⟩
    · by_cases h3 : F < -1099511627776
      · have h2 := D2 h3
        rw [(cut_lo h3).1, (cut_lo h3).2] at cm
        clear D1 D2 d1 hR h1 h3
        go_enter Try.func6, Try.ntmps6
        go_wp2_with (first
          | (go_at_call 18; ((with_reducible refine (cm _).mono ?_); rintro e w' ⟨rfl, hb0⟩))
          | (go_at_call 15; ((with_reducible refine (works_any _).mono ?_); rintro e w' ⟨rfl, hb⟩)))
        go_ret
        exact ⟨rfl, hb0.trans hb⟩
      · rw [(cut_in (by omega) (by omega)).1, (cut_in (by omega) (by omega)).2] at cm
        have ER : wrap64 (P - wrap64 (F * c)) = R := by
          rw [Int.mul_comm] at d1
          generalize F * c = G at *
          simp only [wrap64]; omega
        clear D1 D2 d1 hR h1 h3 hD tb1 tb2
        go_enter Try.func6, Try.ntmps6
        go_wp2_with (first
          | (go_at_call 18; ((with_reducible refine (cm _).mono ?_); rintro e w' ⟨rfl, hb0⟩))
          | (go_at_call 15; ((with_reducible refine (works_any _).mono ?_); rintro e w' ⟨rfl, hb⟩)))
        go_ret
        exact ⟨rfl, hb0.trans hb⟩
end Go.Proofs.Ytfjpjipnbjkmbaa
