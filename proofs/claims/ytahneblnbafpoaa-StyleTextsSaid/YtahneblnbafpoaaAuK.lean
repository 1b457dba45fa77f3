/- math/bits.Div64 (walk). -/
import Derived.Test.YtahneblnbafpoaaAuS
import Derived.Test.YtahneblnbafpoaaAuP
import Derived.Handy
namespace Go.Proofs.Ytahneblnbafpoaa
open Go.RowKit

/-- what the walk needs at a digit's guess: its product is a number of 64 bits -/
theorem dig_prod {u un1 yn1 yn0 q r : Nat} (h : DigI u un1 yn1 yn0 q r) (h0 : yn0 < 4294967296) : q * yn0 < 18446744073709551616 := by
  have := h.2.2.1
  have h2 : q * yn0 ≤ 4294967297 * 4294967295 := Nat.mul_le_mul (by omega) (by omega)
  omega
theorem ret_u {k : IntKind} {a b : Int} (h : a = b) : Value.int k a = .int k b := by rw [h]
theorem wrapNat (a : Nat) (h : a < 18446744073709551616) : IntKind.u64.wrap (a : Int) = (a : Int) := by rw [IntKind.wrap_u64]; omega

theorem ret2u {k k' : IntKind} {a b c d x : Int} (h : a = b) (h' : c = d) : Ending.returned (.tuple #[.int k a, .int k' (c / x)]) = .returned (.tuple #[.int k b, .int k' (d / x)]) := by rw [h, h']
theorem rest_wrap {U U1 Y V q : Nat} (hV : (U * 4294967296 + U1) % Y = V) (hq : q = (U * 4294967296 + U1) / Y) (hY : 0 < Y) (hY' : Y < 18446744073709551616) :
    IntKind.u64.wrap (IntKind.u64.wrap (IntKind.u64.wrap ((U : Int) * 4294967296) + (U1 : Int)) - IntKind.u64.wrap ((q : Int) * (Y : Int))) = (V : Int) := by
  have hd := Nat.div_add_mod (U * 4294967296 + U1) Y
  have hm := Nat.mod_lt (U * 4294967296 + U1) hY
  rw [hV, ← hq] at hd
  rw [hV] at hm
  have hp : (q : Int) * (Y : Int) = ((Y * q : Nat) : Int) := by rw [Nat.mul_comm, Int.natCast_mul]
  rw [hp]
  generalize Y * q = P at *
  simp only [IntKind.wrap_u64]
  omega
set_option maxRecDepth 100000 in
set_option maxHeartbeats 2000000 in
theorem div64_core (hi lo y s : Int) (Y Y1 Y0 U LL U1 U0 Q0 P0 QQ RR : Nat) (h0 : 0 < hi) (h1 : hi < y) (hl0 : 0 ≤ lo) (hl1 : lo ≤ 18446744073709551615) (hy : y ≤ 18446744073709551615) (hs0 : 0 ≤ s) (hs1 : s ≤ 63)
    (cz : ∀ w, Calls Try.prog 66 #[.int .u64 y] w fun e w' => e = .returned (.int .i64 s) ∧ w = w')
    (E1 : IntKind.u64.wrap (y * 2 ^ s.toNat) = (Y : Int)) (E2 : (Y : Int) / 4294967296 = (Y1 : Int)) (E3 : bits BinOp.and .u64 (Y : Int) 4294967295 = (Y0 : Int))
    (E4 : bits BinOp.or .u64 (IntKind.u64.wrap (hi * 2 ^ s.toNat)) (lo / 2 ^ (64 - s).toNat) = (U : Int)) (E5 : IntKind.u64.wrap (lo * 2 ^ s.toNat) = (LL : Int)) (E6 : (LL : Int) / 4294967296 = (U1 : Int))
    (E7 : bits BinOp.and .u64 (LL : Int) 4294967295 = (U0 : Int)) (E8 : (U : Int).tdiv (Y1 : Int) = (Q0 : Int)) (E9 : IntKind.u64.wrap ((Q0 : Int) * (Y1 : Int)) = (P0 : Int))
    (hY : Y = Y1 * 4294967296 + Y0) (hY1 : 2147483648 ≤ Y1) (hY1' : Y1 < 4294967296) (hY0 : Y0 < 4294967296) (hU : U < Y1 * 4294967296 + Y0) (hU1 : U1 < 4294967296) (hU0 : U0 < 4294967296)
    (hQ0 : Q0 = U / Y1) (hP0 : U - P0 = U % Y1) (hP1 : P0 ≤ U)
    (hQQ : ((U * 4294967296 + U1) * 4294967296 + U0) / Y = QQ) (hRR : ((U * 4294967296 + U1) * 4294967296 + U0) % Y = RR) (w : World) :
    Calls Try.prog 61 #[.int .u64 hi, .int .u64 lo, .int .u64 y] w fun e w' => e = .returned (.tuple #[.int .u64 QQ, .int .u64 ((RR : Int) / 2 ^ s.toNat)]) ∧ w = w' := by
  have e1 : (y == 0) = false := by simp; omega
  have e2 : (hi == 0) = false := by simp; omega
  have hU' : U < 18446744073709551616 := by omega
  have hQ' : Q0 ≤ 4294967297 := by
    have := (dig_start (u := U) hY1 hY0 hU1 hU).2.2.1
    omega
  have D0 := hide (dig_start (u := U) hY1 hY0 hU1 hU)
  have HY := hide hY
  have HQ0 := hide hQ0
  have HP0 := hide hP0
  have HU := hide hU
  have HQQ := hide hQQ
  have HRR := hide hRR
  clear hQQ hRR
  clear hY hQ0 hP0 hU
  have cz' := fun w => hide (cz w)
  clear cz
  go_enter Try.func61, Try.ntmps61
  go_wp2_with (first | (go_at_call 66; (refine (unhide (cz' _)).mono ?_); rintro e w' ⟨rfl, rfl⟩))
  have HL := hide (And.intro h0 (And.intro h1 (And.intro hl0 (And.intro hl1 (And.intro hy (And.intro hs0 hs1))))))
  clear E1 E2 E3 E4 E5 E6 E7 E8 E9 h0 h1 hl0 hl1 hy hs0 hs1
  go_loop [15, 16] (fun a b => ∃ q r : Nat, DigI U U1 Y1 Y0 q r ∧ r < 4294967296 ∧ a = .int .u64 q ∧ b = .int .u64 r) (fun a _ => (intOf a).toNat)
  case atStart =>
    refine ⟨Q0, U % Y1, by have := unhide D0; rwa [← unhide HQ0] at this, by have := Nat.mod_lt U (show 0 < Y1 by omega); omega, rfl, ?_⟩
    rw [← unhide HP0]
    exact ret_u (by omega)
  case round =>
    obtain ⟨q, r, hD, hr, rfl, rfl⟩ := hrel
    have hm := dig_prod hD hY0
    have hqb := hD.2.2.1
    obtain ⟨M, hM⟩ : ∃ M : Nat, q * Y0 = M := ⟨_, rfl⟩
    rw [hM] at hm
    have EM : IntKind.u64.wrap ((q : Int) * (Y0 : Int)) = (M : Int) := by rw [← Int.natCast_mul, hM]; exact wrapNat M hm
    have HM := hide hM
    clear hM
    have HD := hide hD
    clear hD
    obtain ⟨T, hT⟩ : ∃ T : Nat, r + Y1 = T := ⟨_, rfl⟩
    obtain ⟨S0, hS0⟩ : ∃ T : Nat, 4294967296 * r = T := ⟨_, rfl⟩
    obtain ⟨S1, hS1⟩ : ∃ T : Nat, S0 + U1 = T := ⟨_, rfl⟩
    obtain ⟨k, hk⟩ : ∃ T : Nat, q - 1 = T := ⟨_, rfl⟩
    have ET : IntKind.u64.wrap ((r : Int) + (Y1 : Int)) = (T : Int) := by rw [← Int.natCast_add, hT]; exact wrapNat T (by omega)
    have ES0 : IntKind.u64.wrap (4294967296 * (r : Int)) = (S0 : Int) := by rw [show 4294967296 * (r : Int) = (S0 : Int) by omega]; exact wrapNat S0 (by omega)
    have ES1 : IntKind.u64.wrap ((S0 : Int) + (U1 : Int)) = (S1 : Int) := by rw [← Int.natCast_add, hS1]; exact wrapNat S1 (by omega)
    have HT := hide (And.intro hT (And.intro hS0 (And.intro hS1 hk)))
    have i0 : 1 ≤ (Y1 : Int) := by omega
    have HN := hide (And.intro hY1 (And.intro hY1' (And.intro hY0 (And.intro hU1 (And.intro hU0 (And.intro hU' (And.intro hQ' (And.intro hr (And.intro hm hqb)))))))))
    by_cases hc : 4294967296 ≤ q ∨ 4294967296 * r + U1 < M
    · have hdn := dig_down hU1 (unhide HU) (unhide HD) (by rw [unhide HM]; exact hc)
      obtain ⟨hq0, hdn⟩ := hdn
      have EK : IntKind.u64.wrap ((q : Int) - 1) = (k : Int) := by rw [show (q : Int) - 1 = (k : Int) by omega]; exact wrapNat k (by omega)
      by_cases hb : r + Y1 < 4294967296
      · have Hdn := hide (And.intro hq0 (And.intro hdn hb))
        have i6 : (T : Int) < 4294967296 := by omega
        have j6 : decide ((4294967296 : Int) ≤ (T : Int)) = false := by simp; omega
        have hc2 : (4294967296 : Int) ≤ (q : Int) ∨ ((q : Int) < 4294967296 ∧ (S1 : Int) < (M : Int)) := by omega
        clear hk hT hS0 hS1 hc hdn hq0 hb hY1 hY1' hY0 hU1 hU0 hU' hQ' hr hm hqb
        rcases hc2 with hc2 | ⟨hc2, hc3⟩
        all_goals
          go_wp2
          go_round
          case rel =>
            obtain ⟨a1, a2, a3⟩ := unhide Hdn
            obtain ⟨t1, t2, t3, t4⟩ := unhide HT
            exact ⟨q - 1, r + Y1, a2, a3, by rw [t4], by rw [t1]⟩
          case measure =>
            obtain ⟨a1, a2, a3⟩ := unhide Hdn
            obtain ⟨t1, t2, t3, t4⟩ := unhide HT
            simp [intOf]; omega
      · have hq : q - 1 = (U * 4294967296 + U1) / (Y1 * 4294967296 + Y0) := dig_end hY1 hY0 hdn (.inr ⟨by omega, by omega⟩)
        have hQ1 : k = (U * 4294967296 + U1) / Y := by rw [unhide HY]; exact hk ▸ hq
        obtain ⟨V, hV⟩ : ∃ V : Nat, (U * 4294967296 + U1) % Y = V := ⟨_, rfl⟩
        obtain ⟨Q2, hQ2⟩ : ∃ V' : Nat, V / Y1 = V' := ⟨_, rfl⟩
        obtain ⟨P2, hP2⟩ : ∃ V' : Nat, Q2 * Y1 = V' := ⟨_, rfl⟩
        have bY : Y < 18446744073709551616 := by rw [unhide HY]; omega
        have R1 : IntKind.u64.wrap (IntKind.u64.wrap (IntKind.u64.wrap ((U : Int) * 4294967296) + (U1 : Int)) - IntKind.u64.wrap ((k : Int) * (Y : Int))) = (V : Int) := rest_wrap hV hQ1 (by rw [unhide HY]; omega) bY
        have bV : V < Y1 * 4294967296 + Y0 := by rw [← hV, ← unhide HY]; exact Nat.mod_lt _ (by rw [unhide HY]; omega)
        have D2 := dig_start (u := V) (un1 := U0) hY1 hY0 hU0 bV
        have R2 : (V : Int).tdiv (Y1 : Int) = (Q2 : Int) := by rw [← hQ2]; exact Int.tdiv_eq_ediv_of_nonneg (by omega)
        have bQ2 : Q2 ≤ 4294967297 := by rw [← hQ2]; exact D2.2.2.1
        have bP2 : P2 ≤ V := by rw [← hP2, ← hQ2]; exact Nat.div_mul_le_self _ _
        have R3 : IntKind.u64.wrap ((Q2 : Int) * (Y1 : Int)) = (P2 : Int) := by rw [← Int.natCast_mul, hP2]; exact wrapNat P2 (by omega)
        have R4 : IntKind.u64.wrap (Q2 : Int) = (Q2 : Int) := wrapNat Q2 (by omega)
        obtain ⟨R, hR⟩ : ∃ V' : Nat, V - P2 = V' := ⟨_, rfl⟩
        have R5 : IntKind.u64.wrap ((V : Int) - (P2 : Int)) = (R : Int) := by rw [show (V : Int) - (P2 : Int) = (R : Int) by omega]; exact wrapNat R (by omega)
        have HR := hide (And.intro hQ1 (And.intro hV (And.intro hQ2 (And.intro hP2 (And.intro bV (And.intro D2 (And.intro bQ2 (And.intro bP2 (And.intro hR bY)))))))))
        clear hQ1 hV hQ2 hP2 bV D2 bQ2 bP2 hR bY
        have i6 : 4294967296 ≤ (T : Int) := by omega
        have hc2 : (4294967296 : Int) ≤ (q : Int) ∨ ((q : Int) < 4294967296 ∧ (S1 : Int) < (M : Int)) := by omega
        clear hk hT hS0 hS1 hc hdn hq0 hb hY1 hY1' hY0 hU1 hU0 hU' hQ' hr hm hqb hq
        rcases hc2 with hc2 | ⟨hc2, hc3⟩
        all_goals
          go_wp2
          clear R1 R2 R3 R4 R5
          go_loop [18, 16] (fun a b => ∃ q r : Nat, DigI V U0 Y1 Y0 q r ∧ r < 4294967296 ∧ a = .int .u64 q ∧ b = .int .u64 r) (fun a _ => (intOf a).toNat)
          case atStart =>
            obtain ⟨d1, d2, d3, d4, d5, d6, d7, d8, d9, d10⟩ := unhide HR
            obtain ⟨hY1, hY1', hY0, hU1, hU0, hU', hQ', hr, hm, hqb⟩ := unhide HN
            have := d6.1
            rw [d3, d4] at this
            refine ⟨Q2, R, ?_, ?_, rfl, rfl⟩
            · rw [d3, show V % Y1 = R by omega] at d6; exact d6
            · have := Nat.mod_lt V (show 0 < Y1 by omega); omega
          case round =>
            obtain ⟨b, c, hD, hr, rfl, rfl⟩ := hrel
            obtain ⟨hY1, hY1', hY0, hU1, hU0, hU', hQ', _, _, _⟩ := unhide HN
            have bV : V < Y1 * 4294967296 + Y0 := (unhide HR).2.2.2.2.1
            have hm := dig_prod hD hY0
            have hqb := hD.2.2.1
            obtain ⟨M2, hM⟩ : ∃ M : Nat, b * Y0 = M := ⟨_, rfl⟩
            rw [hM] at hm
            have EM2 : IntKind.u64.wrap ((b : Int) * (Y0 : Int)) = (M2 : Int) := by rw [← Int.natCast_mul, hM]; exact wrapNat M2 hm
            obtain ⟨T2, hT⟩ : ∃ T : Nat, c + Y1 = T := ⟨_, rfl⟩
            obtain ⟨S2, hS0⟩ : ∃ T : Nat, 4294967296 * c = T := ⟨_, rfl⟩
            obtain ⟨S3, hS1⟩ : ∃ T : Nat, S2 + U0 = T := ⟨_, rfl⟩
            obtain ⟨k2, hk⟩ : ∃ T : Nat, b - 1 = T := ⟨_, rfl⟩
            have ET2 : IntKind.u64.wrap ((c : Int) + (Y1 : Int)) = (T2 : Int) := by rw [← Int.natCast_add, hT]; exact wrapNat T2 (by omega)
            have ES2 : IntKind.u64.wrap (4294967296 * (c : Int)) = (S2 : Int) := by rw [show 4294967296 * (c : Int) = (S2 : Int) by omega]; exact wrapNat S2 (by omega)
            have ES3 : IntKind.u64.wrap ((S2 : Int) + (U0 : Int)) = (S3 : Int) := by rw [← Int.natCast_add, hS1]; exact wrapNat S3 (by omega)
            by_cases hc : 4294967296 ≤ b ∨ 4294967296 * c + U0 < M2
            · have hdn := dig_down hU0 bV hD (by rw [hM]; exact hc)
              obtain ⟨hq0, hdn⟩ := hdn
              have EK2 : IntKind.u64.wrap ((b : Int) - 1) = (k2 : Int) := by rw [show (b : Int) - 1 = (k2 : Int) by omega]; exact wrapNat k2 (by omega)
              have hc2 : (4294967296 : Int) ≤ (b : Int) ∨ ((b : Int) < 4294967296 ∧ (S3 : Int) < (M2 : Int)) := by omega
              by_cases hb : c + Y1 < 4294967296
              · have Hdn := hide (And.intro hq0 (And.intro hdn (And.intro hb (And.intro hT hk))))
                have j6 : decide ((4294967296 : Int) ≤ (T2 : Int)) = false := by simp; omega
                clear hc hdn hq0 hb hY1 hY1' hY0 hU1 hU0 hU' hQ' hr hm hqb hk hT hS0 hS1 hM hD bV
                rcases hc2 with hc2 | ⟨hc2, hc3⟩
                all_goals
                  go_wp2
                  go_round
                  case rel =>
                    obtain ⟨a1, a2, a3, a4, a5⟩ := unhide Hdn
                    exact ⟨b - 1, c + Y1, a2, a3, by rw [a5], by rw [a4]⟩
                  case measure =>
                    obtain ⟨a1, a2, a3, a4, a5⟩ := unhide Hdn
                    simp [intOf]; omega
              · have hq2 : b - 1 = (V * 4294967296 + U0) / (Y1 * 4294967296 + Y0) := dig_end hY1 hY0 hdn (.inr ⟨by omega, by omega⟩)
                rw [hk] at hq2
                have i6 : 4294967296 ≤ (T2 : Int) := by omega
                obtain ⟨d1, d2, d3, d4, d5, d6, d7, d8, d9, d10⟩ := unhide HR
                have hq2' : k2 = (V * 4294967296 + U0) / Y := by rw [unhide HY]; exact hq2
                obtain ⟨t1, t2⟩ := two_digits U U1 U0 Y (by rw [unhide HY]; omega)
                rw [unhide HQQ, d2, ← d1, ← hq2'] at t1
                rw [unhide HRR, d2] at t2
                have b1 : k < 4294967296 := by rw [d1, unhide HY]; exact dig_lt hU1 (unhide HU)
                have b2 : k2 < 4294967296 := by rw [hq2', unhide HY]; exact dig_lt hU0 d5
                have F1 : IntKind.u64.wrap (IntKind.u64.wrap ((k : Int) * 4294967296) + (k2 : Int)) = (QQ : Int) := by
                  rw [t1]; simp only [IntKind.wrap_u64]; omega
                have F2 : IntKind.u64.wrap (IntKind.u64.wrap (IntKind.u64.wrap ((V : Int) * 4294967296) + (U0 : Int)) - IntKind.u64.wrap ((k2 : Int) * (Y : Int))) = (RR : Int) := rest_wrap t2.symm hq2' (by rw [unhide HY]; omega) d10
                clear d1 d2 d3 d4 d5 d6 d7 d8 d9 d10 t1 t2 hq2' b1 b2
                have s0 := (unhide HL).2.2.2.2.2.1
                have s1 := (unhide HL).2.2.2.2.2.2
                clear hc hdn hq0 hb hY1 hY1' hY0 hU1 hU0 hU' hQ' hr hm hqb hk hT hS0 hS1 hM hD bV hq2
                rcases hc2 with hc2 | ⟨hc2, hc3⟩
                all_goals
                  go_wp2
                  go_ret2
                  exact ⟨rfl, rfl⟩

            · have hq2 : b = (V * 4294967296 + U0) / (Y1 * 4294967296 + Y0) := dig_end hY1 hY0 hD (.inl (by rw [hM]; omega))
              have i6 : decide ((4294967296 : Int) ≤ (b : Int)) = false := by simp; omega
              have j7 : ¬ ((S3 : Int) < (M2 : Int)) := by omega
              obtain ⟨d1, d2, d3, d4, d5, d6, d7, d8, d9, d10⟩ := unhide HR
              have hq2' : b = (V * 4294967296 + U0) / Y := by rw [unhide HY]; exact hq2
              obtain ⟨t1, t2⟩ := two_digits U U1 U0 Y (by rw [unhide HY]; omega)
              rw [unhide HQQ, d2, ← d1, ← hq2'] at t1
              rw [unhide HRR, d2] at t2
              have b1 : k < 4294967296 := by rw [d1, unhide HY]; exact dig_lt hU1 (unhide HU)
              have b2 : b < 4294967296 := by rw [hq2', unhide HY]; exact dig_lt hU0 d5
              have F1 : IntKind.u64.wrap (IntKind.u64.wrap ((k : Int) * 4294967296) + (b : Int)) = (QQ : Int) := by
                rw [t1]; simp only [IntKind.wrap_u64]; omega
              have F2 : IntKind.u64.wrap (IntKind.u64.wrap (IntKind.u64.wrap ((V : Int) * 4294967296) + (U0 : Int)) - IntKind.u64.wrap ((b : Int) * (Y : Int))) = (RR : Int) := rest_wrap t2.symm hq2' (by rw [unhide HY]; omega) d10
              clear d1 d2 d3 d4 d5 d6 d7 d8 d9 d10 t1 t2 hq2' b1 b2
              have s0 := (unhide HL).2.2.2.2.2.1
              have s1 := (unhide HL).2.2.2.2.2.2
              clear hc hY1 hY1' hY0 hU1 hU0 hU' hQ' hr hm hqb hk hT hS0 hS1 hM hD bV hq2
              go_wp2
              go_ret2
              exact ⟨rfl, rfl⟩

    · have hq : q = (U * 4294967296 + U1) / (Y1 * 4294967296 + Y0) := dig_end hY1 hY0 (unhide HD) (.inl (by rw [unhide HM]; omega))
      have hQ1 : q = (U * 4294967296 + U1) / Y := by rw [unhide HY]; exact hq
      obtain ⟨V, hV⟩ : ∃ V : Nat, (U * 4294967296 + U1) % Y = V := ⟨_, rfl⟩
      obtain ⟨Q2, hQ2⟩ : ∃ V' : Nat, V / Y1 = V' := ⟨_, rfl⟩
      obtain ⟨P2, hP2⟩ : ∃ V' : Nat, Q2 * Y1 = V' := ⟨_, rfl⟩
      have bY : Y < 18446744073709551616 := by rw [unhide HY]; omega
      have R1 : IntKind.u64.wrap (IntKind.u64.wrap (IntKind.u64.wrap ((U : Int) * 4294967296) + (U1 : Int)) - IntKind.u64.wrap ((q : Int) * (Y : Int))) = (V : Int) := rest_wrap hV hQ1 (by rw [unhide HY]; omega) bY
      have bV : V < Y1 * 4294967296 + Y0 := by rw [← hV, ← unhide HY]; exact Nat.mod_lt _ (by rw [unhide HY]; omega)
      have D2 := dig_start (u := V) (un1 := U0) hY1 hY0 hU0 bV
      have R2 : (V : Int).tdiv (Y1 : Int) = (Q2 : Int) := by rw [← hQ2]; exact Int.tdiv_eq_ediv_of_nonneg (by omega)
      have bQ2 : Q2 ≤ 4294967297 := by rw [← hQ2]; exact D2.2.2.1
      have bP2 : P2 ≤ V := by rw [← hP2, ← hQ2]; exact Nat.div_mul_le_self _ _
      have R3 : IntKind.u64.wrap ((Q2 : Int) * (Y1 : Int)) = (P2 : Int) := by rw [← Int.natCast_mul, hP2]; exact wrapNat P2 (by omega)
      have R4 : IntKind.u64.wrap (Q2 : Int) = (Q2 : Int) := wrapNat Q2 (by omega)
      obtain ⟨R, hR⟩ : ∃ V' : Nat, V - P2 = V' := ⟨_, rfl⟩
      have R5 : IntKind.u64.wrap ((V : Int) - (P2 : Int)) = (R : Int) := by rw [show (V : Int) - (P2 : Int) = (R : Int) by omega]; exact wrapNat R (by omega)
      have HR := hide (And.intro hQ1 (And.intro hV (And.intro hQ2 (And.intro hP2 (And.intro bV (And.intro D2 (And.intro bQ2 (And.intro bP2 (And.intro hR bY)))))))))
      clear hQ1 hV hQ2 hP2 bV D2 bQ2 bP2 hR bY
      have i6 : decide ((4294967296 : Int) ≤ (q : Int)) = false := by simp; omega
      have i7 : (M : Int) ≤ (S1 : Int) := by omega
      have j7 : ¬ ((S1 : Int) < (M : Int)) := by omega
      clear i7 hk hT hS0 hS1 hq hc hY1 hY1' hY0 hU1 hU0 hU' hQ' hr hm hqb
      go_wp2
      clear R1 R2 R3 R4 R5
      go_loop [18, 16] (fun a b => ∃ q r : Nat, DigI V U0 Y1 Y0 q r ∧ r < 4294967296 ∧ a = .int .u64 q ∧ b = .int .u64 r) (fun a _ => (intOf a).toNat)
      case atStart =>
        obtain ⟨d1, d2, d3, d4, d5, d6, d7, d8, d9, d10⟩ := unhide HR
        obtain ⟨hY1, hY1', hY0, hU1, hU0, hU', hQ', hr, hm, hqb⟩ := unhide HN
        have := d6.1
        rw [d3, d4] at this
        refine ⟨Q2, R, ?_, ?_, rfl, rfl⟩
        · rw [d3, show V % Y1 = R by omega] at d6; exact d6
        · have := Nat.mod_lt V (show 0 < Y1 by omega); omega
      case round =>
        obtain ⟨b, c, hD, hr, rfl, rfl⟩ := hrel
        obtain ⟨hY1, hY1', hY0, hU1, hU0, hU', hQ', _, _, _⟩ := unhide HN
        have bV : V < Y1 * 4294967296 + Y0 := (unhide HR).2.2.2.2.1
        have hm := dig_prod hD hY0
        have hqb := hD.2.2.1
        obtain ⟨M2, hM⟩ : ∃ M : Nat, b * Y0 = M := ⟨_, rfl⟩
        rw [hM] at hm
        have EM2 : IntKind.u64.wrap ((b : Int) * (Y0 : Int)) = (M2 : Int) := by rw [← Int.natCast_mul, hM]; exact wrapNat M2 hm
        obtain ⟨T2, hT⟩ : ∃ T : Nat, c + Y1 = T := ⟨_, rfl⟩
        obtain ⟨S2, hS0⟩ : ∃ T : Nat, 4294967296 * c = T := ⟨_, rfl⟩
        obtain ⟨S3, hS1⟩ : ∃ T : Nat, S2 + U0 = T := ⟨_, rfl⟩
        obtain ⟨k2, hk⟩ : ∃ T : Nat, b - 1 = T := ⟨_, rfl⟩
        have ET2 : IntKind.u64.wrap ((c : Int) + (Y1 : Int)) = (T2 : Int) := by rw [← Int.natCast_add, hT]; exact wrapNat T2 (by omega)
        have ES2 : IntKind.u64.wrap (4294967296 * (c : Int)) = (S2 : Int) := by rw [show 4294967296 * (c : Int) = (S2 : Int) by omega]; exact wrapNat S2 (by omega)
        have ES3 : IntKind.u64.wrap ((S2 : Int) + (U0 : Int)) = (S3 : Int) := by rw [← Int.natCast_add, hS1]; exact wrapNat S3 (by omega)
        by_cases hc : 4294967296 ≤ b ∨ 4294967296 * c + U0 < M2
        · have hdn := dig_down hU0 bV hD (by rw [hM]; exact hc)
          obtain ⟨hq0, hdn⟩ := hdn
          have EK2 : IntKind.u64.wrap ((b : Int) - 1) = (k2 : Int) := by rw [show (b : Int) - 1 = (k2 : Int) by omega]; exact wrapNat k2 (by omega)
          have hc2 : (4294967296 : Int) ≤ (b : Int) ∨ ((b : Int) < 4294967296 ∧ (S3 : Int) < (M2 : Int)) := by omega
          by_cases hb : c + Y1 < 4294967296
          · have Hdn := hide (And.intro hq0 (And.intro hdn (And.intro hb (And.intro hT hk))))
            have j6 : decide ((4294967296 : Int) ≤ (T2 : Int)) = false := by simp; omega
            clear hc hdn hq0 hb hY1 hY1' hY0 hU1 hU0 hU' hQ' hr hm hqb hk hT hS0 hS1 hM hD bV
            rcases hc2 with hc2 | ⟨hc2, hc3⟩
            all_goals
              go_wp2
              go_round
              case rel =>
                obtain ⟨a1, a2, a3, a4, a5⟩ := unhide Hdn
                exact ⟨b - 1, c + Y1, a2, a3, by rw [a5], by rw [a4]⟩
              case measure =>
                obtain ⟨a1, a2, a3, a4, a5⟩ := unhide Hdn
                simp [intOf]; omega
          · have hq2 : b - 1 = (V * 4294967296 + U0) / (Y1 * 4294967296 + Y0) := dig_end hY1 hY0 hdn (.inr ⟨by omega, by omega⟩)
            rw [hk] at hq2
            have i6 : 4294967296 ≤ (T2 : Int) := by omega
            obtain ⟨d1, d2, d3, d4, d5, d6, d7, d8, d9, d10⟩ := unhide HR
            have hq2' : k2 = (V * 4294967296 + U0) / Y := by rw [unhide HY]; exact hq2
            obtain ⟨t1, t2⟩ := two_digits U U1 U0 Y (by rw [unhide HY]; omega)
            rw [unhide HQQ, d2, ← d1, ← hq2'] at t1
            rw [unhide HRR, d2] at t2
            have b1 : q < 4294967296 := by rw [d1, unhide HY]; exact dig_lt hU1 (unhide HU)
            have b2 : k2 < 4294967296 := by rw [hq2', unhide HY]; exact dig_lt hU0 d5
            have F1 : IntKind.u64.wrap (IntKind.u64.wrap ((q : Int) * 4294967296) + (k2 : Int)) = (QQ : Int) := by
              rw [t1]; simp only [IntKind.wrap_u64]; omega
            have F2 : IntKind.u64.wrap (IntKind.u64.wrap (IntKind.u64.wrap ((V : Int) * 4294967296) + (U0 : Int)) - IntKind.u64.wrap ((k2 : Int) * (Y : Int))) = (RR : Int) := rest_wrap t2.symm hq2' (by rw [unhide HY]; omega) d10
            clear d1 d2 d3 d4 d5 d6 d7 d8 d9 d10 t1 t2 hq2' b1 b2
            have s0 := (unhide HL).2.2.2.2.2.1
            have s1 := (unhide HL).2.2.2.2.2.2
            clear hc hdn hq0 hb hY1 hY1' hY0 hU1 hU0 hU' hQ' hr hm hqb hk hT hS0 hS1 hM hD bV hq2
            rcases hc2 with hc2 | ⟨hc2, hc3⟩
            all_goals
              go_wp2
              go_ret2
              exact ⟨rfl, rfl⟩

        · have hq2 : b = (V * 4294967296 + U0) / (Y1 * 4294967296 + Y0) := dig_end hY1 hY0 hD (.inl (by rw [hM]; omega))
          have i6 : decide ((4294967296 : Int) ≤ (b : Int)) = false := by simp; omega
          have j7 : ¬ ((S3 : Int) < (M2 : Int)) := by omega
          obtain ⟨d1, d2, d3, d4, d5, d6, d7, d8, d9, d10⟩ := unhide HR
          have hq2' : b = (V * 4294967296 + U0) / Y := by rw [unhide HY]; exact hq2
          obtain ⟨t1, t2⟩ := two_digits U U1 U0 Y (by rw [unhide HY]; omega)
          rw [unhide HQQ, d2, ← d1, ← hq2'] at t1
          rw [unhide HRR, d2] at t2
          have b1 : q < 4294967296 := by rw [d1, unhide HY]; exact dig_lt hU1 (unhide HU)
          have b2 : b < 4294967296 := by rw [hq2', unhide HY]; exact dig_lt hU0 d5
          have F1 : IntKind.u64.wrap (IntKind.u64.wrap ((q : Int) * 4294967296) + (b : Int)) = (QQ : Int) := by
            rw [t1]; simp only [IntKind.wrap_u64]; omega
          have F2 : IntKind.u64.wrap (IntKind.u64.wrap (IntKind.u64.wrap ((V : Int) * 4294967296) + (U0 : Int)) - IntKind.u64.wrap ((b : Int) * (Y : Int))) = (RR : Int) := rest_wrap t2.symm hq2' (by rw [unhide HY]; omega) d10
          clear d1 d2 d3 d4 d5 d6 d7 d8 d9 d10 t1 t2 hq2' b1 b2
          have s0 := (unhide HL).2.2.2.2.2.1
          have s1 := (unhide HL).2.2.2.2.2.2
          clear hc hY1 hY1' hY0 hU1 hU0 hU' hQ' hr hm hqb hk hT hS0 hS1 hM hD bV hq2
          go_wp2
          go_ret2
          exact ⟨rfl, rfl⟩

end Go.Proofs.Ytahneblnbafpoaa
