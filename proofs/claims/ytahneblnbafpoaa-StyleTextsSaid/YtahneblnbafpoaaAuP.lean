/- A number of 128 bits divided by one of 64, digit by digit of base 2^32; sums and cuts of 128 bits: plain Lean, no program. -/
namespace Go.Proofs.Ytahneblnbafpoaa

/-- one digit: what holds of the guess q with its rest r -/
def DigI (u un1 yn1 yn0 q r : Nat) : Prop :=
  q * yn1 + r = u ∧ (u * 4294967296 + un1) / (yn1 * 4294967296 + yn0) ≤ q ∧ q ≤ 4294967297 ∧ (r < yn1 ∨ q ≤ 4294967296)
theorem dig_start {u un1 yn1 yn0 : Nat} (hy : 2147483648 ≤ yn1) (h0 : yn0 < 4294967296) (h1 : un1 < 4294967296) (hu : u < yn1 * 4294967296 + yn0) : DigI u un1 yn1 yn0 (u / yn1) (u % yn1) := by
  have hd := Nat.div_add_mod u yn1
  have hm := Nat.mod_lt u (show 0 < yn1 by omega)
  refine ⟨by rw [Nat.mul_comm]; exact hd, ?_, ?_, .inl hm⟩
  · refine Nat.le_of_lt_succ ((Nat.div_lt_iff_lt_mul (by omega)).2 ?_)
    generalize u / yn1 = q at *
    generalize u % yn1 = r at *
    have e : (q + 1) * (yn1 * 4294967296 + yn0) = (yn1 * q) * 4294967296 + yn1 * 4294967296 + (q + 1) * yn0 := by
      rw [Nat.add_mul, Nat.mul_add, Nat.add_mul]
      have : q * (yn1 * 4294967296) = yn1 * q * 4294967296 := by rw [← Nat.mul_assoc, Nat.mul_comm q]
      omega
    show u * 4294967296 + un1 < (q + 1) * (yn1 * 4294967296 + yn0)
    rw [e]
    have : (q + 1) * yn0 ≥ 0 := Nat.zero_le _
    omega
  · refine Nat.le_of_lt_succ ((Nat.div_lt_iff_lt_mul (by omega)).2 ?_)
    omega
/-- the guess is too great: one less -/
theorem dig_down {u un1 yn1 yn0 q r : Nat} (h1 : un1 < 4294967296) (hu : u < yn1 * 4294967296 + yn0) (h : DigI u un1 yn1 yn0 q r)
    (hc : 4294967296 ≤ q ∨ 4294967296 * r + un1 < q * yn0) : 0 < q ∧ DigI u un1 yn1 yn0 (q - 1) (r + yn1) := by
  unfold DigI at *
  obtain ⟨a1, a2, a3, a4⟩ := h
  have hlt : (u * 4294967296 + un1) / (yn1 * 4294967296 + yn0) < q := by
    refine (Nat.div_lt_iff_lt_mul (by omega)).2 ?_
    rcases hc with hc | hc
    · have : 4294967296 * (yn1 * 4294967296 + yn0) ≤ q * (yn1 * 4294967296 + yn0) := Nat.mul_le_mul_right _ hc
      omega
    · have e : q * (yn1 * 4294967296 + yn0) = q * yn1 * 4294967296 + q * yn0 := by rw [Nat.mul_add, Nat.mul_assoc]
      rw [e, ← a1]
      omega
  generalize (u * 4294967296 + un1) / (yn1 * 4294967296 + yn0) = Q at *
  obtain ⟨k, rfl⟩ : ∃ k, q = k + 1 := ⟨q - 1, by omega⟩
  rw [Nat.add_mul] at a1
  refine ⟨by omega, ?_, ?_, ?_, ?_⟩
  · simp only [Nat.add_sub_cancel]
    omega
  · simp only [Nat.add_sub_cancel]
    omega
  · omega
  · exact .inr (by omega)
/-- the guess is right -/
theorem dig_end {u un1 yn1 yn0 q r : Nat} (hy : 2147483648 ≤ yn1) (h0 : yn0 < 4294967296) (h : DigI u un1 yn1 yn0 q r) (hc : q * yn0 ≤ 4294967296 * r + un1 ∨ (4294967296 ≤ r ∧ q ≤ 4294967296)) :
    q = (u * 4294967296 + un1) / (yn1 * 4294967296 + yn0) := by
  obtain ⟨a1, a2, a3, a4⟩ := h
  refine Nat.le_antisymm ?_ a2
  refine (Nat.le_div_iff_mul_le (by omega)).2 ?_
  have e : q * (yn1 * 4294967296 + yn0) = q * yn1 * 4294967296 + q * yn0 := by rw [Nat.mul_add, Nat.mul_assoc]
  rw [e, ← a1]
  have : q * yn0 ≤ 4294967296 * r + un1 := by
    rcases hc with hc | ⟨h2, h3⟩
    · exact hc
    · have : q * yn0 ≤ 4294967296 * yn0 := Nat.mul_le_mul_right _ h3
      omega
  omega
theorem dig_lt {u un1 yn1 yn0 : Nat} (h1 : un1 < 4294967296) (hu : u < yn1 * 4294967296 + yn0) : (u * 4294967296 + un1) / (yn1 * 4294967296 + yn0) < 4294967296 := by
  refine (Nat.div_lt_iff_lt_mul (by omega)).2 ?_
  omega

theorem two_digits_gen (a un0 y B : Nat) (hy : 0 < y) :
    (a * B + un0) / y = a / y * B + (a % y * B + un0) / y ∧ (a * B + un0) % y = (a % y * B + un0) % y := by
  have hd := Nat.div_add_mod a y
  have e : a * B + un0 = y * (a / y * B) + (a % y * B + un0) := by
    have h1 : y * (a / y * B) = (y * (a / y)) * B := by rw [Nat.mul_assoc]
    have h2 : a * B = (y * (a / y) + a % y) * B := by rw [hd]
    rw [h1, h2, Nat.add_mul]; omega
  rw [e, Nat.mul_add_div hy, Nat.mul_add_mod]
  exact ⟨rfl, rfl⟩
/-- two digits are the quotient, and what is left is the rest -/
theorem two_digits (u un1 un0 y : Nat) (hy : 0 < y) :
    ((u * 4294967296 + un1) * 4294967296 + un0) / y = (u * 4294967296 + un1) / y * 4294967296 + ((u * 4294967296 + un1) % y * 4294967296 + un0) / y ∧
    ((u * 4294967296 + un1) * 4294967296 + un0) % y = ((u * 4294967296 + un1) % y * 4294967296 + un0) % y := two_digits_gen _ _ _ _ hy

/-- shifting both by s turns no quotient, and shifts the rest -/
theorem shift_div (n y k : Nat) (hk : 0 < k) : (n * k) / (y * k) = n / y ∧ (n * k) % (y * k) = n % y * k :=
  ⟨Nat.mul_div_mul_right _ _ hk, Nat.mul_mod_mul_right ..⟩
end Go.Proofs.Ytahneblnbafpoaa
