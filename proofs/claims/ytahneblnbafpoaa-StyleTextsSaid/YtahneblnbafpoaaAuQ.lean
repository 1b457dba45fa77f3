/- Layer 1: the reference's product and quotient, and the law on parts (walks). -/
import Derived.Test.YtahneblnbafpoaaBigL
import Derived.Test.YtahneblnbafpoaaAuM
namespace Go.Proofs.Ytahneblnbafpoaa
open Go.RowKit

set_option maxRecDepth 100000 in
set_option maxHeartbeats 4000000 in
theorem refmuldiv_any (a b c : Int) (a1 : -9223372036854775808 ≤ a) (a2 : a ≤ 9223372036854775807) (b1 : -9223372036854775808 ≤ b) (b2 : b ≤ 9223372036854775807) (c1 : -9223372036854775808 ≤ c) (c2 : c ≤ 9223372036854775807) (hc : c ≠ 0) (w : World) :
    Calls Try.prog 27 #[.int .i64 a, .int .i64 b, .int .i64 c] w fun e w' => e = .returned (.tuple #[.int .i64 (cutV (flo (a * b) c)), .bool (cutB (flo (a * b) c))]) ∧ Ext w w' := by
  obtain ⟨X, hX⟩ : ∃ X, cutV (flo (a * b) c) = X := ⟨_, rfl⟩
  obtain ⟨p, hp⟩ : ∃ p, cutB (flo (a * b) c) = p := ⟨_, rfl⟩
  rw [hX, hp]
  have HX := hide (And.intro hX hp)
  have ka := fun w => hide (of_any a a1 a2 w)
  have kb := fun w => hide (of_any b b1 b2 w)
  have kc := fun w => hide (of_any c c1 c2 w)
  have hce : (c == 0) = false := by simpa using hc
  have HCN := hide hc
  clear hX hp a1 a2 b1 b2 c1 c2 hc
  go_enter Try.func27, Try.ntmps27
  go_wp2_with fail
  refine (unhide (ka _)).mono ?_
  rintro e w1 ⟨m1, A1, d1, l1, rfl, R1, -, -, P1, hx⟩
  have E1 := hx
  clear hx
  go_wp2_with fail
  refine (unhide (kb _)).mono ?_
  rintro e w2 ⟨m2, A2, d2, l2, rfl, R2, -, -, P2, hx⟩
  have E2 := E1.trans hx
  replace R1 := R1.ext hx
  have z1 := of_zs P1
  have z2 := of_zs P2
  have k1 : l1.length ≤ 64 := P1.2.2
  have k2 : l2.length ≤ 64 := P2.2.2
  have HZ := hide (And.intro z1 z2)
  clear hx E1 P1 P2 z1 z2
  go_wp2_with fail
  refine (mul_any m1 m2 A1 A2 l1.length d1 l2.length d2 l1 l2 w2 R1 R2 (by omega) (by omega)).mono ?_
  rintro e w3 ⟨m3, A3, d3, l3, rfl, hD, hZ, hx⟩
  have E3 := E2.trans hx
  have R3 := hD.rd
  have q3 := hZ.1
  have k3 : l3.length ≤ 129 := by have := hZ.2.2.2; omega
  have HQ := hide q3
  clear hx E2 R1 R2 hD hZ q3
  go_wp2_with fail
  refine (unhide (kc _)).mono ?_
  rintro e w4 ⟨m4, A4, d4, l4, rfl, R4, -, -, P4, hx⟩
  have E4 := E3.trans hx
  replace R3 := R3.ext hx
  have z4 := of_zs P4
  have k4 : l4.length ≤ 64 := P4.2.2
  have hv : 0 < val l4 := by have := P4.1; have := unhide HCN; omega
  have HZ4 := hide z4
  clear hx E3 P4 z4
  go_wp2_with fail
  refine (div_any m3 m4 A3 A4 l3.length d3 l4.length d4 l3 l4 w4 R3 R4 (by omega) (by omega) hv).mono ?_
  rintro e w5 ⟨m5, A5, d5, l5, rfl, R5, q5, k5, hx⟩
  have E5 := E4.trans hx
  have e5 : bigZ m5 l5 = flo (a * b) c := by rw [q5, unhide HQ, (unhide HZ).1, (unhide HZ).2, unhide HZ4]
  have cc := refcut_any m5 A5 l5.length d5 l5 w5 R5 (by omega)
  rw [e5, (unhide HX).1, (unhide HX).2] at cc
  have cc := hide cc
  clear hx E4 R3 R4 R5 q5 e5 hv
  go_wp2_with fail
  refine (unhide cc).mono ?_
  rintro e w6 ⟨rfl, hx⟩
  go_wp2_with fail
  go_ret2
  exact ⟨rfl, E5.trans hx⟩
end Go.Proofs.Ytahneblnbafpoaa
