/- Layer 1: quotients of products (walks). -/
import Derived.Test.YtahneblnbafpoaaAuK
import Derived.Test.YtahneblnbafpoaaSh
import Derived.Test.YtahneblnbafpoaaBigP
import Derived.Lib.ItoaNum
import Derived.Laws.BitsAllLaws
import Derived.Laws.BitsLemmas
namespace Go.Proofs.Ytahneblnbafpoaa
open Go.RowKit

theorem ofNat_u64 (a : Nat) (ha : a < 18446744073709551616) : (BitVec.ofInt 64 (a : Int)).toNat = a := by
  rw [BitVec.ofInt_natCast, BitVec.toNat_ofNat]; exact Nat.mod_eq_of_lt (by omega)
theorem mask32 (a : Nat) (ha : a < 18446744073709551616) : bits BinOp.and .u64 (a : Int) 4294967295 = ((a % 4294967296 : Nat) : Int) := by
  have hx : a &&& 4294967295 = a % 4294967296 := Nat.and_two_pow_sub_one_eq_mod a 32
  show IntKind.u64.wrap ((BitVec.ofInt 64 (a : Int) &&& BitVec.ofInt 64 ((4294967295 : Nat) : Int)).toNat : Int) = _
  rw [BitVec.toNat_and, ofNat_u64 a ha, ofNat_u64 4294967295 (by omega), hx, IntKind.wrap_u64]
  omega
theorem or_add (a b s : Nat) (hb : b < 2 ^ s) (ha : 2 ^ s * a + b < 18446744073709551616) : bits BinOp.or .u64 ((2 ^ s * a : Nat) : Int) (b : Int) = ((2 ^ s * a + b : Nat) : Int) := by
  have hx : (2 ^ s * a ||| b) = 2 ^ s * a + b := (Nat.two_pow_add_eq_or_of_lt hb a).symm
  show IntKind.u64.wrap ((BitVec.ofInt 64 ((2 ^ s * a : Nat) : Int) ||| BitVec.ofInt 64 (b : Int)).toNat : Int) = _
  rw [BitVec.toNat_or, ofNat_u64 _ (by omega), ofNat_u64 b (by omega), hx, IntKind.wrap_u64]
  omega

/-- how far a number is shifted to fill 64 bits -/
theorem lead (y : Nat) (h0 : 0 < y) (h1 : y < 18446744073709551616) : ∃ s : Nat, s ≤ 63 ∧ 9223372036854775808 ≤ y * 2 ^ s ∧ y * 2 ^ s < 18446744073709551616 ∧ (64 - (Lib.bitLen (y : Int).toNat : Int)) = (s : Int) := by
  obtain ⟨a, b, c⟩ := Lib.bitLenAux_bounds 64 y (by simpa using h1) (by omega)
  have hle : Lib.bitLenAux 64 y ≤ 64 := Lib.bitLenAux_le 64 y 64 (by simpa using h1)
  have hb : Lib.bitLen (y : Int).toNat = Lib.bitLenAux 64 y := rfl
  rw [hb]
  generalize Lib.bitLenAux 64 y = n at *
  refine ⟨64 - n, by omega, ?_, ?_, by omega⟩
  · have : 2 ^ (n - 1) * 2 ^ (64 - n) ≤ y * 2 ^ (64 - n) := Nat.mul_le_mul_right _ b
    rw [← Nat.pow_add, show n - 1 + (64 - n) = 63 by omega] at this
    exact this
  · have : y * 2 ^ (64 - n) < 2 ^ n * 2 ^ (64 - n) := Nat.mul_lt_mul_of_pos_right c (Nat.two_pow_pos _)
    rw [← Nat.pow_add, show n + (64 - n) = 64 by omega] at this
    exact this

theorem div64_lo (lo d : Int) (h0 : 0 ≤ lo) (h1 : lo ≤ 18446744073709551615) (hd : 0 < d) (hd1 : d ≤ 18446744073709551615) (w : World) :
    Calls Try.prog 61 #[.int .u64 0, .int .u64 lo, .int .u64 d] w fun e w' => e = .returned (.tuple #[.int .u64 (lo / d), .int .u64 (lo % d)]) ∧ Ext w w' := by
  have hd0 : (d == 0) = false := by simp; omega
  have hd2 : 0 ≤ d := by omega
  go_enter Try.func61, Try.ntmps61
  go_wp2
  go_region
  go_wp2
  go_ret2
  exact ⟨rfl, (Ext.refl _).drew⟩

theorem shl_nat (a s : Nat) : ((a : Int) * 2 ^ (s : Int).toNat) = ((a * 2 ^ s : Nat) : Int) := by simp
theorem div64_any (hi lo y : Nat) (hlt : hi < y) (hl : lo < 18446744073709551616) (hy : y < 18446744073709551616) (w : World) :
    Calls Try.prog 61 #[.int .u64 hi, .int .u64 lo, .int .u64 y] w fun e w' => e = .returned (.tuple #[.int .u64 (((hi * 18446744073709551616 + lo) / y : Nat) : Int), .int .u64 (((hi * 18446744073709551616 + lo) % y : Nat) : Int)]) ∧ Ext w w' := by
  by_cases h0 : hi = 0
  · subst h0
    have h := div64_lo lo y (by omega) (by omega) (by omega) (by omega) w
    rw [Nat.zero_mul, Nat.zero_add]
    exact h
  · obtain ⟨s, hs, s1, s2, s3⟩ := lead y (by omega) hy
    have hsp : 0 < 2 ^ s := Nat.two_pow_pos s
    obtain ⟨Y, hY⟩ : ∃ Y, y * 2 ^ s = Y := ⟨_, rfl⟩
    rw [hY] at s1 s2
    -- the number shifted
    have hN : (hi * 18446744073709551616 + lo) * 2 ^ s = (hi * 2 ^ s + lo / 2 ^ (64 - s)) * 18446744073709551616 + (lo * 2 ^ s) % 18446744073709551616 := by
      have hk : 2 ^ (64 - s) * 2 ^ s = 18446744073709551616 := by rw [← Nat.pow_add, show 64 - s + s = 64 by omega]
      have hd := Nat.div_add_mod lo (2 ^ (64 - s))
      have hm := Nat.mod_lt lo (Nat.two_pow_pos (64 - s))
      generalize lo / 2 ^ (64 - s) = D at *
      generalize lo % 2 ^ (64 - s) = M at *
      have e1 : lo * 2 ^ s = D * 18446744073709551616 + M * 2 ^ s := by
        rw [← hd, Nat.add_mul, Nat.mul_comm _ D, Nat.mul_assoc, hk]
      have e2 : M * 2 ^ s < 18446744073709551616 := by
        rw [← hk]; exact Nat.mul_lt_mul_of_pos_right hm hsp
      have e3 : lo * 2 ^ s % 18446744073709551616 = M * 2 ^ s := by rw [e1]; omega
      have e4 : (hi * 18446744073709551616 + lo) * 2 ^ s = hi * 2 ^ s * 18446744073709551616 + lo * 2 ^ s := by rw [Nat.add_mul, Nat.mul_right_comm]
      rw [e4, e3, e1]
      omega
    have hd : lo / 2 ^ (64 - s) < 2 ^ s := by
      refine (Nat.div_lt_iff_lt_mul (Nat.two_pow_pos _)).2 ?_
      rw [← Nat.pow_add, show s + (64 - s) = 64 by omega]; exact hl
    obtain ⟨U, hU⟩ : ∃ U, hi * 2 ^ s + lo / 2 ^ (64 - s) = U := ⟨_, rfl⟩
    obtain ⟨LL, hLL⟩ : ∃ L, (lo * 2 ^ s) % 18446744073709551616 = L := ⟨_, rfl⟩
    have hUY : U < Y := by
      have : (hi + 1) * 2 ^ s ≤ y * 2 ^ s := Nat.mul_le_mul_right _ hlt
      rw [hY, Nat.add_mul] at this
      omega
    have hi2 : hi * 2 ^ s < 18446744073709551616 := by
      have : hi * 2 ^ s ≤ U := hU ▸ Nat.le_add_right _ _
      omega
    have hq := shift_div (hi * 18446744073709551616 + lo) y (2 ^ s) hsp
    rw [hY, hN, hU, hLL] at hq
    have hLL2 : LL < 18446744073709551616 := by omega
    have hc := div64_core hi lo y s Y (Y / 4294967296) (Y % 4294967296) U LL (LL / 4294967296) (LL % 4294967296) (U / (Y / 4294967296)) (U / (Y / 4294967296) * (Y / 4294967296))
      ((U * 18446744073709551616 + LL) / Y) ((U * 18446744073709551616 + LL) % Y)
      (by omega) (by omega) (by omega) (by omega) (by omega) (by omega) (by omega)
      (fun w => by
        have := sh_bits_LeadingZeros64 (y : Int) w (by omega) (by omega)
        rw [s3] at this
        exact this.mono fun _ _ h => ⟨h.1, h.2.symm⟩)
      (by rw [shl_nat, hY]; exact wrapNat Y s2) (by omega) (mask32 Y s2)
      (by
        rw [shl_nat, wrapNat _ hi2, show (64 - (s : Int)).toNat = 64 - s by omega]
        rw [show ((lo : Int) / 2 ^ (64 - s)) = ((lo / 2 ^ (64 - s) : Nat) : Int) by simp]
        rw [Nat.mul_comm hi, or_add hi _ s hd (by rw [Nat.mul_comm]; omega), Nat.mul_comm, hU])
      (by rw [shl_nat, IntKind.wrap_u64, ← hLL]; omega) (by omega) (mask32 LL hLL2)
      (by rw [Int.tdiv_eq_ediv_of_nonneg (by omega)]; omega)
      (by
        rw [← Int.natCast_mul]
        have := Nat.div_mul_le_self U (Y / 4294967296)
        exact wrapNat _ (by omega))
      (by omega) (by omega) (by omega) (by omega) (by omega) (by omega) (by omega) rfl
      (by have := Nat.div_add_mod U (Y / 4294967296); rw [Nat.mul_comm] at this; omega)
      (Nat.div_mul_le_self _ _)
      (by rw [show (U * 4294967296 + LL / 4294967296) * 4294967296 + LL % 4294967296 = U * 18446744073709551616 + LL by omega])
      (by rw [show (U * 4294967296 + LL / 4294967296) * 4294967296 + LL % 4294967296 = U * 18446744073709551616 + LL by omega]) w
    refine hc.mono fun e w' ⟨he, hw⟩ => ⟨?_, hw ▸ Ext.refl _⟩
    rw [he, hq.1, hq.2]
    have e5 : ((((hi * 18446744073709551616 + lo) % y * 2 ^ s : Nat) : Int) / 2 ^ (s : Int).toNat) = (((hi * 18446744073709551616 + lo) % y : Nat) : Int) := by
      rw [Int.toNat_natCast]
      have : (((hi * 18446744073709551616 + lo) % y * 2 ^ s : Nat) : Int) / ((2 ^ s : Nat) : Int) = (((hi * 18446744073709551616 + lo) % y * 2 ^ s / 2 ^ s : Nat) : Int) := (Int.natCast_ediv _ _).symm
      rw [Nat.mul_div_cancel _ hsp] at this
      simpa using this
    rw [e5]
end Go.Proofs.Ytahneblnbafpoaa
