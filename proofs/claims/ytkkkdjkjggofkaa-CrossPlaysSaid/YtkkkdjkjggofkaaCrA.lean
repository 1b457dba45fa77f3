/- Layer 20: heights, halves, and what is between (walks). -/
import Derived.Test.YtkkkdjkjggofkaaWidM
import Derived.Test.YtkkkdjkjggofkaaRd
import Derived.Shelf.Bits.Mul64
namespace Go.Proofs.Ytkkkdjkjggofkaa
open Go.Shelf Go.RowKit Go.Lib
/-- how high the contents of a box are -/
def highV (s : Sty) (a : Int) : Int :=
  let h0 := if s.h.k = 1 then s.h.n else a
  let h1 := if s.maxh.k = 1 then min h0 s.maxh.n else h0
  let h2 := if s.minh.k = 1 then max h1 s.minh.n else h1
  max h2 0
section
variable {s : Sty} {a : Int}
theorem high_1 (h1 : s.h.k = 1) (h2 : s.maxh.k = 1) (h3 : s.minh.k = 1) : highV s a = max (max (min s.h.n s.maxh.n) s.minh.n) 0 := by simp [highV, h1, h2, h3]
theorem high_2 (h1 : s.h.k = 1) (h2 : s.maxh.k = 1) (h3 : ¬ s.minh.k = 1) : highV s a = max (min s.h.n s.maxh.n) 0 := by simp [highV, h1, h2, h3]
theorem high_3 (h1 : s.h.k = 1) (h2 : ¬ s.maxh.k = 1) (h3 : s.minh.k = 1) : highV s a = max (max s.h.n s.minh.n) 0 := by simp [highV, h1, h2, h3]
theorem high_4 (h1 : s.h.k = 1) (h2 : ¬ s.maxh.k = 1) (h3 : ¬ s.minh.k = 1) : highV s a = max s.h.n 0 := by simp [highV, h1, h2, h3]
theorem high_5 (h1 : ¬ s.h.k = 1) (h2 : s.maxh.k = 1) (h3 : s.minh.k = 1) : highV s a = max (max (min a s.maxh.n) s.minh.n) 0 := by simp [highV, h1, h2, h3]
theorem high_6 (h1 : ¬ s.h.k = 1) (h2 : s.maxh.k = 1) (h3 : ¬ s.minh.k = 1) : highV s a = max (min a s.maxh.n) 0 := by simp [highV, h1, h2, h3]
theorem high_7 (h1 : ¬ s.h.k = 1) (h2 : ¬ s.maxh.k = 1) (h3 : s.minh.k = 1) : highV s a = max (max a s.minh.n) 0 := by simp [highV, h1, h2, h3]
theorem high_8 (h1 : ¬ s.h.k = 1) (h2 : ¬ s.maxh.k = 1) (h3 : ¬ s.minh.k = 1) : highV s a = max a 0 := by simp [highV, h1, h2, h3]
end
set_option maxHeartbeats 1000000 in
theorem high_any (s : Sty) (a : Int) (w : World) : Calls Try.prog 12 #[.agg s.cells, .int .i64 a] w fun e w' => e = .returned (.int .i64 (highV s a)) ∧ Ext w w' := by
  by_cases h1 : s.h.k = 1 <;> by_cases h2 : s.maxh.k = 1 <;> by_cases h3 : s.minh.k = 1
  all_goals
    go_enter Try.func12, Try.ntmps12
    go_wp2
  all_goals go_ret
  all_goals refine ⟨ret1 ?_, (Ext.refl _).alloc _⟩
  all_goals first
    | (rw [high_1 h1 h2 h3]; omega)
    | (rw [high_2 h1 h2 h3]; omega)
    | (rw [high_3 h1 h2 h3]; omega)
    | (rw [high_4 h1 h2 h3]; omega)
    | (rw [high_5 h1 h2 h3]; omega)
    | (rw [high_6 h1 h2 h3]; omega)
    | (rw [high_7 h1 h2 h3]; omega)
    | (rw [high_8 h1 h2 h3]; omega)
set_option maxHeartbeats 1000000 in
theorem ref_high (s : Sty) (a : Int) (w : World) : Calls Try.prog 13 #[.agg s.cells, .int .i64 a] w fun e w' => e = .returned (.int .i64 (highV s a)) ∧ Ext w w' := by
  by_cases h1 : s.h.k = 1 <;> by_cases h2 : s.maxh.k = 1 <;> by_cases h3 : s.minh.k = 1
  all_goals
    go_enter Try.func13, Try.ntmps13
    go_wp2
  all_goals go_ret
  all_goals refine ⟨ret1 ?_, (Ext.refl _).alloc _⟩
  all_goals first
    | (rw [high_1 h1 h2 h3]; omega)
    | (rw [high_2 h1 h2 h3]; omega)
    | (rw [high_3 h1 h2 h3]; omega)
    | (rw [high_4 h1 h2 h3]; omega)
    | (rw [high_5 h1 h2 h3]; omega)
    | (rw [high_6 h1 h2 h3]; omega)
    | (rw [high_7 h1 h2 h3]; omega)
    | (rw [high_8 h1 h2 h3]; omega)
/-- how far an item is moved, by the alignment -/
def betV (free : Int) (p n : Nat) : Int := if free ≤ 0 ∨ n < 2 then 0 else (p : Int) * free / ((n : Int) - 1)
def moveV (j free : Int) (p n : Nat) : Int := if j = 1 then free else if j = 2 then free / 2 else if j = 3 then betV free p n else 0
theorem half_any (x : Int) (h1 : -9000000000000000000 ≤ x) (h2 : x ≤ 9000000000000000000) (w : World) : Calls Try.prog 27 #[.int .i64 x] w fun e w' => e = .returned (.int .i64 (x / 2)) ∧ w = w' := by
  have a1 := tdiv_lit x 2 (by omega)
  have a2 := tmod_lit x 2
  by_cases h : x < 0
  · rw [if_neg (by omega)] at a1 a2
    by_cases hm : x.tmod 2 = 0
    all_goals
      have A1 := hide a1
      have A2 := hide a2
      have hb : -4500000000000000000 ≤ x.tdiv 2 ∧ x.tdiv 2 ≤ 0 := by omega
      clear a1 a2
      go_enter Try.func27, Try.ntmps27
      go_wp2
    all_goals go_ret
    all_goals refine ⟨ret1 ?_, rfl⟩
    all_goals (have := unhide A1; have := unhide A2; omega)
  · have hx : 0 ≤ x := by omega
    clear a1 a2
    go_enter Try.func27, Try.ntmps27
    go_wp2
    all_goals go_ret
    all_goals exact ⟨rfl, rfl⟩
def sh_lays264_ren : Go.Shelf.Ren := ⟨fun | 264 => 41 | n => n, fun | 53 => 98 | 46 => 92 | n => n, fun | n => n⟩
theorem sh_lays264 : Go.Proofs.Lays.n264 Try.prog sh_lays264_ren := {
  mixed := by kernel_rfl
  f264 := Try.func41.trans (congrArg some (by kernel_rfl))
  t46 := Try.underlying92
  a46 := Try.isAgg92
  z46 := Try.sizeOf92
  v46 := Try.zeroValue92
  t53 := Try.underlying98
  a53 := Try.isAgg98
  z53 := Try.sizeOf98
  v53 := Try.zeroValue98 }
theorem sh_bits_Mul64 (x y : Nat) (hx : x < 18446744073709551616) (hy : y < 18446744073709551616) (w : World) :
    Calls Try.prog 41 #[.int .u64 x, .int .u64 y] w fun e w' => e = .returned (.tuple #[.int .u64 ((x * y / 18446744073709551616 : Nat) : Int), .int .u64 ((x * y % 18446744073709551616 : Nat) : Int)]) ∧ w' = w := Any.bits_Mul64 sh_lays264 x y hx hy w
theorem mul_lo (x y p : Nat) (hp : x * y = p) (h : p < 18446744073709551616) (hx : x < 18446744073709551616) (hy : y < 18446744073709551616) (w : World) :
    Calls Try.prog 41 #[.int .u64 x, .int .u64 y] w fun e w' => e = .returned (.tuple #[.int .u64 0, .int .u64 (p : Int)]) ∧ w = w' :=
  (sh_bits_Mul64 x y hx hy w).mono fun _ _ q => by
    rw [hp, Nat.div_eq_of_lt h, Nat.mod_eq_of_lt h] at q
    exact ⟨q.1, q.2.symm⟩
theorem div64_lo (lo d : Int) (h0 : 0 ≤ lo) (h1 : lo ≤ 18446744073709551615) (hd : 0 < d) (hd1 : d ≤ 18446744073709551615) (w : World) :
    Calls Try.prog 42 #[.int .u64 0, .int .u64 lo, .int .u64 d] w fun e w' => e = .returned (.tuple #[.int .u64 (lo / d), .int .u64 (lo % d)]) ∧ Ext w w' := by
  have hd0 : (d == 0) = false := by simp; omega
  have hd2 : 0 ≤ d := by omega
  go_enter Try.func42, Try.ntmps42
  go_wp2
  go_region
  go_wp2
  go_ret2
  exact ⟨rfl, (Ext.refl _).drew⟩

theorem mv0_any (f p n : Int) (w : World) : Calls Try.prog 35 #[.int .i64 f, .int .i64 p, .int .i64 n] w fun e w' => e = .returned (.int .i64 0) ∧ Ext w w' := by
  go_enter Try.func35, Try.ntmps35
  go_wp2
  go_ret
  exact ⟨rfl, Ext.refl _⟩
theorem mv1_any (f p n : Int) (w : World) : Calls Try.prog 36 #[.int .i64 f, .int .i64 p, .int .i64 n] w fun e w' => e = .returned (.int .i64 f) ∧ Ext w w' := by
  go_enter Try.func36, Try.ntmps36
  go_wp2
  go_ret
  exact ⟨rfl, Ext.refl _⟩
theorem mv2_any (f p n : Int) (w : World) : Calls Try.prog 37 #[.int .i64 f, .int .i64 p, .int .i64 n] w fun e w' => e = .returned (.int .i64 (f / 2)) ∧ Ext w w' := by
  go_enter Try.func37, Try.ntmps37
  go_wp2
  go_ret
  exact ⟨rfl, Ext.refl _⟩
theorem mul_small {a b A B : Nat} (ha : a ≤ A) (hb : b ≤ B) : a * b ≤ A * B := Nat.mul_le_mul ha hb
theorem mv3_any (f : Int) (p n : Nat) (hf : f ≤ 10000000000000000) (hp : p < n) (hn : n ≤ 70) (w : World) : Calls Try.prog 38 #[.int .i64 f, .int .i64 (p : Int), .int .i64 (n : Int)] w fun e w' => e = .returned (.int .i64 (betV f p n)) ∧ Ext w w' := by
  by_cases h : f ≤ 0
  · rw [show betV f p n = 0 by rw [betV, if_pos (.inl h)]]
    go_enter Try.func38, Try.ntmps38
    go_wp2
    go_ret
    exact ⟨rfl, Ext.refl _⟩
  · by_cases h2 : n < 2
    · rw [show betV f p n = 0 by rw [betV, if_pos (.inr h2)]]
      go_enter Try.func38, Try.ntmps38
      go_wp2
      go_ret
      exact ⟨rfl, Ext.refl _⟩
    · obtain ⟨g, rfl⟩ : ∃ g : Nat, f = g := ⟨f.toNat, by omega⟩
      obtain ⟨d, rfl⟩ : ∃ d : Nat, n = d + 1 := ⟨n - 1, by omega⟩
      obtain ⟨q, hq⟩ : ∃ q : Nat, p * g = q := ⟨_, rfl⟩
      have hqb : q ≤ 70 * 10000000000000000 := by rw [← hq]; exact mul_small (by omega) (by omega)
      have hd1 : 0 < d := by omega
      have hdv : (q : Int) / (d : Int) ≤ q ∧ 0 ≤ (q : Int) / (d : Int) := ⟨Int.ediv_le_self _ (by omega), Int.ediv_nonneg (by omega) (by omega)⟩
      rw [show betV (g : Int) p (d + 1) = (q : Int) / (d : Int) by
        rw [betV, if_neg (by omega), ← hq]
        congr 1
        omega]
      have c1 := fun w => hide (mul_lo p g q hq (by omega) (by omega) (by omega) w)
      have c2 := fun w => hide (div64_lo q d (by omega) (by omega) (by omega) (by omega) w)
      have hdd : (d : Int) ≤ 70 ∧ (p : Int) ≤ 70 ∧ 0 ≤ (g : Int) ∧ (g : Int) ≤ 10000000000000000 := by omega
      obtain ⟨v, hv⟩ : ∃ v, (q : Int) / (d : Int) = v := ⟨_, rfl⟩
      rw [hv] at hdv
      rw [hv]
      have HV := hide hv
      have hvb : v ≤ 700000000000000000 := by omega
      clear hq hv hqb
      have e1 : ((d + 1 : Nat) : Int) - 1 = (d : Int) := by omega
      have hn1 : ¬ ((d + 1 : Nat) : Int) < 2 := by omega
      generalize hdn : ((d + 1 : Nat) : Int) = D at *
      have hD : (2 : Int) ≤ D ∧ D ≤ 70 := by omega
      clear hdn
      go_enter Try.func38, Try.ntmps38
      go_wp2_with fail
      with_reducible refine (unhide (c1 _)).mono ?_
      rintro e w1 ⟨rfl, rfl⟩
      go_wp2_with fail
      with_reducible refine (unhide (c2 _)).mono ?_
      rintro e w1 ⟨rfl, hx⟩
      rw [unhide HV]
      go_wp2_with fail
      go_ret
      exact ⟨rfl, hx⟩
end Go.Proofs.Ytkkkdjkjggofkaa
