/- Layer 1: MulDiv, Part (walks). -/
import Derived.Test.YtahneblnbafpoaaAuD
namespace Go.Proofs.Ytahneblnbafpoaa
open Go.RowKit

theorem cut_hi {v : Int} (h : 1099511627776 < v) : cutV v = 1099511627776 ∧ cutB v = true := ⟨by unfold cutV; rw [if_pos h], by simp [cutB, h]⟩
theorem cut_lo {v : Int} (h : v < -1099511627776) : cutV v = -1099511627776 ∧ cutB v = true := ⟨by unfold cutV; rw [if_neg (by omega), if_pos h], by simp [cutB, h]⟩

/-- a floor by its parts without signs -/
theorem flo_abs (a b c : Int) (hc : c ≠ 0) (bl : Bool) (hbl : ((decide (a < 0) != decide (b < 0)) != decide (c < 0)) = bl) :
    flo (a * b) c = if bl = true then -((a.natAbs * b.natAbs / c.natAbs : Nat) : Int) - (if a.natAbs * b.natAbs % c.natAbs = 0 then 0 else 1) else ((a.natAbs * b.natAbs / c.natAbs : Nat) : Int) := by
  have hd : 0 < c.natAbs := by omega
  rw [← Int.natAbs_mul]
  have hz : ∀ q : Nat, 0 < q → (0 : Int) = -((0 / q : Nat) : Int) - (if 0 % q = 0 then 0 else 1) := fun q _ => by simp
  have hab : (a * b = ((a * b).natAbs : Int) ∧ (decide (a < 0) != decide (b < 0)) = false) ∨ (a * b = -((a * b).natAbs : Int) ∧ (decide (a < 0) != decide (b < 0)) = true) := by
    by_cases h1 : a < 0 <;> by_cases h2 : b < 0
    · left; have := Int.mul_nonneg_of_nonpos_of_nonpos (a := a) (b := b) (by omega) (by omega); exact ⟨by omega, by simp [h1, h2]⟩
    · right; have := Int.mul_nonpos_of_nonpos_of_nonneg (a := a) (b := b) (by omega) (by omega); exact ⟨by omega, by simp [h1, h2]⟩
    · right; have := Int.mul_nonpos_of_nonneg_of_nonpos (a := a) (b := b) (by omega) (by omega); exact ⟨by omega, by simp [h1, h2]⟩
    · left; have := Int.mul_nonneg (a := a) (b := b) (by omega) (by omega); exact ⟨by omega, by simp [h1, h2]⟩
  generalize a * b = n at *
  rcases hab with ⟨e, h⟩ | ⟨e, h⟩
  · rw [h] at hbl
    by_cases h3 : c < 0
    · simp [h3] at hbl
      subst hbl
      simp only [if_true]
      have ec : c = -((c.natAbs : Nat) : Int) := by omega
      rw [← flo_pn _ _ hd, ← e, ← ec]
    · simp [h3] at hbl
      subst hbl
      simp only [Bool.false_eq_true, if_false]
      have ec : c = ((c.natAbs : Nat) : Int) := by omega
      rw [← flo_pp _ _ hd, ← e, ← ec]
  · rw [h] at hbl
    by_cases h3 : c < 0
    · simp [h3] at hbl
      subst hbl
      simp only [Bool.false_eq_true, if_false]
      have ec : c = -((c.natAbs : Nat) : Int) := by omega
      rw [← flo_nn _ _ hd, ← e, ← ec]
    · simp [h3] at hbl
      subst hbl
      simp only [if_true]
      have ec : c = ((c.natAbs : Nat) : Int) := by omega
      rw [← flo_np _ _ hd, ← e, ← ec]

theorem big_quot (n d : Nat) (hd : 0 < d) (h : d ≤ n / 18446744073709551616) : 18446744073709551616 ≤ n / d := by
  refine (Nat.le_div_iff_mul_le hd).2 ?_
  have := (Nat.le_div_iff_mul_le (by omega : 0 < 18446744073709551616)).1 h
  rw [Nat.mul_comm]; exact this

set_option maxHeartbeats 2000000 in
theorem muldiv_any (a b c : Int) (a1 : -9223372036854775808 ≤ a) (a2 : a ≤ 9223372036854775807) (b1 : -9223372036854775808 ≤ b) (b2 : b ≤ 9223372036854775807) (c1 : -9223372036854775808 ≤ c) (c2 : c ≤ 9223372036854775807) (hc : c ≠ 0) (w : World) :
    Calls Try.prog 53 #[.int .i64 a, .int .i64 b, .int .i64 c] w fun e w' => e = .returned (.tuple #[.int .i64 (cutV (flo (a * b) c)), .bool (cutB (flo (a * b) c))]) ∧ Ext w w' := by
  obtain ⟨x1, hx1⟩ : ∃ x, (decide (a < 0) != decide (b < 0)) = x := ⟨_, rfl⟩
  obtain ⟨bl, hbl⟩ : ∃ x, (x1 != decide (c < 0)) = x := ⟨_, rfl⟩
  have hF := flo_abs a b c hc bl (by rw [hx1]; exact hbl)
  have hc0 : (c == 0) = false := by simpa using hc
  have hx2 : (!(decide (a < 0) == decide (b < 0))) = x1 := hx1
  have hbl2 : (!(x1 == decide (c < 0))) = bl := hbl
  have cs : ∀ x : Int, x = a ∨ x = b ∨ x = c → ∀ w, Calls Try.prog 60 #[.int .i64 x] w fun e w' => e = .returned (.int .u64 (x.natAbs : Int)) ∧ w = w' := fun x hx w => size_any x (by omega) (by omega) w
  have ca := cs a (by simp)
  have cb := cs b (by simp)
  have cc := cs c (by simp)
  have hp : a.natAbs < 18446744073709551616 := by omega
  have hq : b.natAbs < 18446744073709551616 := by omega
  have hd : 0 < c.natAbs := by omega
  have hd2 : c.natAbs < 18446744073709551616 := by omega
  have cm := fun w => sh_bits_Mul64 a.natAbs b.natAbs hp hq w
  clear cs hc a1 a2 b1 b2 c1 c2
  generalize flo (a * b) c = V at *
  generalize a.natAbs = p at *
  generalize b.natAbs = q at *
  generalize c.natAbs = d at *
  obtain ⟨n, hn⟩ : ∃ n, p * q = n := ⟨_, rfl⟩
  rw [hn] at cm hF
  have hn2 : n / 18446744073709551616 * 18446744073709551616 + n % 18446744073709551616 = n := by omega
  have cd := fun h w => div64_any (n / 18446744073709551616) (n % 18446744073709551616) d h (by omega) hd2 w
  rw [hn2] at cd
  have hbig := big_quot n d hd
  have hlo : n % 18446744073709551616 < 18446744073709551616 := by omega
  clear hn hn2
  generalize n % 18446744073709551616 = lo at *
  generalize n / 18446744073709551616 = hi at *
  by_cases hh : d ≤ hi
  · have h1 := hbig hh
    clear cd hbig
    have hV : (bl = true → V < -1099511627776) ∧ (bl = false → 1099511627776 < V) := by
      constructor
      · rintro rfl; rw [hF]; simp only [if_true]; split <;> omega
      · rintro rfl; rw [hF]; simp only [Bool.false_eq_true, if_false]; omega
    clear hF h1
    cases bl
    · have hv := cut_hi (hV.2 rfl)
      rw [hv.1, hv.2]
      clear hV hv
      go_enter Try.func53, Try.ntmps53
      go_wp2_with (first
        | (go_at_call 60; ((first | (with_reducible refine (ca _).mono ?_) | (with_reducible refine (cb _).mono ?_) | (with_reducible refine (cc _).mono ?_)); rintro e w' ⟨rfl, rfl⟩))
        | (go_at_call 59; ((with_reducible refine (cm _).mono ?_); rintro e w' ⟨rfl, rfl⟩)))
      go_ret2
      exact ⟨rfl, Ext.refl _⟩
    · have hv := cut_lo (hV.1 rfl)
      rw [hv.1, hv.2]
      clear hV hv
      go_enter Try.func53, Try.ntmps53
      go_wp2_with (first
        | (go_at_call 60; ((first | (with_reducible refine (ca _).mono ?_) | (with_reducible refine (cb _).mono ?_) | (with_reducible refine (cc _).mono ?_)); rintro e w' ⟨rfl, rfl⟩))
        | (go_at_call 59; ((with_reducible refine (cm _).mono ?_); rintro e w' ⟨rfl, rfl⟩)))
      go_ret2
      exact ⟨rfl, Ext.refl _⟩
  · have cd := cd (by omega)
    clear hbig
    have hr : n % d < d := Nat.mod_lt _ hd
    generalize n / d = Q at *
    generalize n % d = R at *
    by_cases hQ : 1099511627776 < Q
    · have hV : (bl = true → V < -1099511627776) ∧ (bl = false → 1099511627776 < V) := by
        constructor
        · rintro rfl; rw [hF]; simp only [if_true]; split <;> omega
        · rintro rfl; rw [hF]; simp only [Bool.false_eq_true, if_false]; omega
      have hQ1 : (1099511627776 : Int) < (Q : Int) := by omega
      clear hF hQ
      cases bl
      · have hv := cut_hi (hV.2 rfl)
        rw [hv.1, hv.2]
        clear hV hv
        go_enter Try.func53, Try.ntmps53
        go_wp2_with (first
          | (go_at_call 60; ((first | (with_reducible refine (ca _).mono ?_) | (with_reducible refine (cb _).mono ?_) | (with_reducible refine (cc _).mono ?_)); rintro e w' ⟨rfl, rfl⟩))
          | (go_at_call 61; ((with_reducible refine (cd _).mono ?_); rintro e w' ⟨rfl, hb⟩))
          | (go_at_call 59; ((with_reducible refine (cm _).mono ?_); rintro e w' ⟨rfl, rfl⟩)))
        go_ret2
        exact ⟨rfl, hb⟩
      · have hv := cut_lo (hV.1 rfl)
        rw [hv.1, hv.2]
        clear hV hv
        go_enter Try.func53, Try.ntmps53
        go_wp2_with (first
          | (go_at_call 60; ((first | (with_reducible refine (ca _).mono ?_) | (with_reducible refine (cb _).mono ?_) | (with_reducible refine (cc _).mono ?_)); rintro e w' ⟨rfl, rfl⟩))
          | (go_at_call 61; ((with_reducible refine (cd _).mono ?_); rintro e w' ⟨rfl, hb⟩))
          | (go_at_call 59; ((with_reducible refine (cm _).mono ?_); rintro e w' ⟨rfl, rfl⟩)))
        go_ret2
        exact ⟨rfl, hb⟩
    · have hQ1 : (Q : Int) ≤ 1099511627776 := by omega
      clear hQ
      cases bl
      · simp only [Bool.false_eq_true, if_false] at hF
        subst hF
        go_enter Try.func53, Try.ntmps53
        go_wp2_with (first
          | (go_at_call 60; ((first | (with_reducible refine (ca _).mono ?_) | (with_reducible refine (cb _).mono ?_) | (with_reducible refine (cc _).mono ?_)); rintro e w' ⟨rfl, rfl⟩))
          | (go_at_call 61; ((with_reducible refine (cd _).mono ?_); rintro e w' ⟨rfl, hb⟩))
          | (go_at_call 23; ((with_reducible refine (au_cut _ _).mono ?_); rintro e w' ⟨rfl, rfl⟩))
          | (go_at_call 59; ((with_reducible refine (cm _).mono ?_); rintro e w' ⟨rfl, rfl⟩)))
        go_ret2
        exact ⟨rfl, hb⟩
      · simp only [if_true] at hF
        by_cases hR : R = 0
        · rw [if_pos hR] at hF
          have hF' : V = -(Q : Int) := by omega
          have hR1 : ((R : Int) != 0) = false := by simp; omega
          subst hF'
          clear hF hR
          go_enter Try.func53, Try.ntmps53
          go_wp2_with (first
            | (go_at_call 60; ((first | (with_reducible refine (ca _).mono ?_) | (with_reducible refine (cb _).mono ?_) | (with_reducible refine (cc _).mono ?_)); rintro e w' ⟨rfl, rfl⟩))
            | (go_at_call 61; ((with_reducible refine (cd _).mono ?_); rintro e w' ⟨rfl, hb⟩))
            | (go_at_call 23; ((with_reducible refine (au_cut _ _).mono ?_); rintro e w' ⟨rfl, rfl⟩))
            | (go_at_call 59; ((with_reducible refine (cm _).mono ?_); rintro e w' ⟨rfl, rfl⟩)))
          go_ret2
          exact ⟨rfl, hb⟩
        · rw [if_neg hR] at hF
          have hR1 : ((R : Int) != 0) = true := by simp; omega
          subst hF
          clear hR
          go_enter Try.func53, Try.ntmps53
          go_wp2_with (first
            | (go_at_call 60; ((first | (with_reducible refine (ca _).mono ?_) | (with_reducible refine (cb _).mono ?_) | (with_reducible refine (cc _).mono ?_)); rintro e w' ⟨rfl, rfl⟩))
            | (go_at_call 61; ((with_reducible refine (cd _).mono ?_); rintro e w' ⟨rfl, hb⟩))
            | (go_at_call 23; ((with_reducible refine (au_cut _ _).mono ?_); rintro e w' ⟨rfl, rfl⟩))
            | (go_at_call 59; ((with_reducible refine (cm _).mono ?_); rintro e w' ⟨rfl, rfl⟩)))
          go_ret2
          exact ⟨rfl, hb⟩
theorem muldiv_0 (a b : Int) (w : World) : Calls Try.prog 53 #[.int .i64 a, .int .i64 b, .int .i64 0] w fun e w' => e = .returned (.tuple #[.int .i64 0, .bool true]) ∧ Ext w w' := by
  go_enter Try.func53, Try.ntmps53
  go_wp2
  go_ret2
  exact ⟨rfl, Ext.refl _⟩
theorem part_any (a n : Int) (a1 : -9223372036854775808 ≤ a) (a2 : a ≤ 9223372036854775807) (b1 : -9223372036854775808 ≤ n) (b2 : n ≤ 9223372036854775807) (w : World) :
    Calls Try.prog 24 #[.int .i64 a, .int .i64 n] w fun e w' => e = .returned (.tuple #[.int .i64 (cutV (a * n / 10000)), .bool (cutB (a * n / 10000))]) ∧ Ext w w' := by
  have h := fun w => muldiv_any a n 10000 a1 a2 b1 b2 (by omega) (by omega) (by omega) w
  have e : flo (a * n) 10000 = a * n / 10000 := by unfold flo; rw [if_pos (by omega)]
  rw [e] at h
  go_enter Try.func24, Try.ntmps24
  go_wp2_with (first | (go_at_call 53; ((with_reducible refine (h _).mono ?_); rintro e w' ⟨rfl, hb⟩)))
  go_ret2
  exact ⟨rfl, hb⟩
end Go.Proofs.Ytahneblnbafpoaa
