/- Numbers as lists of digits: cut (walk). -/
import Derived.Test.YtahneblnbafpoaaBigD
import Derived.Deep.RegionWith
import Derived.Deep.DeepCutAuto
namespace Go.Proofs.Ytahneblnbafpoaa
open Go.RowKit

/-- the number that a sign and digits mean -/
def bigZ (m : Bool) (l : List Bool) : Int := if m = true then -(val l : Int) else val l
theorem bigZ_f (l : List Bool) : bigZ false l = (val l : Int) := rfl
theorem bigZ_t (l : List Bool) : bigZ true l = -(val l : Int) := rfl
theorem val_drop_le (l : List Bool) (j : Nat) : val (l.drop j) ≤ val l := by
  have h := val_split l j
  have := Nat.le_mul_of_pos_left (val (l.drop j)) (Nat.two_pow_pos j)
  omega

theorem big_field1 (m : Bool) (A : Option Addr) (n c : Nat) (w : World) : (Instr.field 56 (bigV m A n c) 1).run Try.prog w = .ok (.slice A n c) w := by kernel_rfl
set_option maxRecDepth 100000 in
set_option maxHeartbeats 2000000 in
theorem refcut_any (m : Bool) (A : Option Addr) (n c : Nat) (l : List Bool) (w : World) (hr : Rd w 1 A n (bools l)) (hn : n ≤ 100000) :
    Calls Try.prog 25 #[bigV m A n c] w fun e w' => e = .returned (.tuple #[.int .i64 (cutV (bigZ m l)), .bool (cutB (bigZ m l))]) ∧ Ext w w' := by
  have hl : l.length = n := by have := hr.len; simpa [bools] using this
  have HL := hide hl
  clear hl
  go_enter Try.func25, Try.ntmps25
  go_wp2
  have B1 : Blk (w.alloc (.cells #[.bool m, .slice A n c] 56)) w.heap.size 56 #[.bool m, .slice A n c] := Blk.new _ _ _
  have E1 : Ext w (w.alloc (.cells #[.bool m, .slice A n c] 56)) := (Ext.refl _).alloc _
  generalize w.alloc (.cells #[.bool m, .slice A n c] 56) = w1 at *
  have hlt := B1.lt
  have hfld := big_field1
  have hc0 : w1.cell? ⟨w.heap.size, 1, none⟩ = some (.slice A n c) := by rw [B1.cell]; rfl
  go_region_with (first | (go_at_call 26; refine (of_any 1099511627776 (by omega) (by omega) _).mono ?_; rintro e w2 ⟨m0, A0, c0, l0, rfl, hR0, k1, k2, hP0, hX⟩; have hc2 := (hX.cells.1 _ _ hlt).trans hc0) | (go_at_call 54; refine (less_any A0 A l0.length c0 n c l0 l _ hR0 (hr.ext (E1.drew.trans hX)) (by have := hP0.2.2; omega) hn).mono ?_; rintro e w3 ⟨rfl, rfl⟩))
  all_goals
    have hv0 : val l0 = 1099511627776 := hP0.1
    have B2 := B1.ext ((Ext.refl w1).drew.trans hX)
    have E2 := E1.trans ((Ext.refl w1).drew.trans hX)
    have R2 := hr.ext E2
    have hcc := B2.cell
    rw [hv0]
    clear hv0 hP0 hR0 hc0 hc2 hX B1 E1 hlt hr hfld
    by_cases hbig : 1099511627776 < val l
    · have e0 : decide (1099511627776 < val l) = true := by simp [hbig]
      rw [e0]
      have HB := hide hbig
      clear hbig e0
      cases m
      · go_wp2
        go_ret2
        exact ⟨ret2 (by have := unhide HB; rw [bigZ_f]; unfold cutV; rw [if_pos (by omega)]) (by have := unhide HB; rw [bigZ_f]; simp [cutB]; omega), E2⟩
      · go_wp2
        go_ret2
        exact ⟨ret2 (by have := unhide HB; rw [bigZ_t]; unfold cutV; rw [if_neg (by omega), if_pos (by omega)]) (by have := unhide HB; rw [bigZ_t]; simp [cutB]; omega), E2⟩
    · have e0 : decide (1099511627776 < val l) = false := by simp [hbig]
      rw [e0]
      have HB := hide hbig
      clear hbig e0
      go_wp2
      go_loop [4, 5] (fun v i => ∃ j, j ≤ n ∧ ((j = 0 ∧ i = .int .i64 (-1)) ∨ ∃ q : Nat, j = q + 1 ∧ i = .int .i64 q) ∧ v = .int .i64 (val (l.drop j) : Nat)) (fun _ i => (intOf i + 1).toNat)
      case atStart =>
        refine ⟨n, Nat.le_refl _, ?_, by rw [List.drop_eq_nil_of_le (by rw [unhide HL]; omega)]; rfl⟩
        cases n with
        | zero => exact .inl ⟨rfl, rfl⟩
        | succ q => exact .inr ⟨q, rfl, by go_num⟩
      case round =>
        obtain ⟨j, hj, hi, rfl⟩ := hrel
        rcases hi with ⟨rfl, rfl⟩ | ⟨q, rfl, rfl⟩
        · rw [List.drop_zero]
          have hb := unhide HB
          cases m
          · go_wp2
            go_ret2
            exact ⟨ret2 (by have := unhide HB; rw [bigZ_f]; unfold cutV; rw [if_neg (by omega), if_neg (by omega)]) (by have := unhide HB; rw [bigZ_f]; simp [cutB]; omega), E2⟩
          · go_wp2
            go_ret2
            exact ⟨ret2 (by have := unhide HB; rw [bigZ_t]; unfold cutV; rw [if_neg (by omega), if_neg (by omega)]) (by have := unhide HB; rw [bigZ_t]; simp [cutB]; omega), E2⟩
        · have hd := val_drop l q
          have hle := val_drop_le l q
          have ca := at_any A n c q l _ R2 (by omega) (by omega)
          have b1 := atN_le l q
          have hb := unhide HB
          have HD := hide hd
          generalize val (l.drop (q + 1)) = V at *
          generalize atN l q = X at *
          have CA := hide ca
          have i1 : 2 * (V : Int) + (X : Int) ≤ 1099511627776 := by omega
          have i2 : (X : Int) ≤ 1 := by omega
          clear ca hd hle hb
          go_wp2_with fail
          refine (unhide CA).mono ?_
          rintro e w' ⟨rfl, rfl⟩
          go_wp2_with fail
          go_round
          case rel =>
            refine ⟨q, by omega, ?_, by rw [unhide HD]; go_num⟩
            cases q with
            | zero => exact .inl ⟨rfl, rfl⟩
            | succ p => exact .inr ⟨p, rfl, by go_num⟩
          case measure => simp [intOf]
end Go.Proofs.Ytahneblnbafpoaa
