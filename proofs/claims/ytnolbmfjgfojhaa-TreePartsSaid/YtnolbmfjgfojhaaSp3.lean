/- Styles, the program's: all of a style but its kind and units is zero: what '==' says. -/
import Derived.Test.YtnolbmfjgfojhaaSp2
import Derived.Laws.StructEq
namespace Go.Proofs.Ytnolbmfjgfojhaa
open Go.RowKit

theorem eq_len (d : Nat) (a b : Ln) (w : World) : (Op.equalIn (d + 2) 40 a.v b.v).run Try.prog w = .ok (a.k == b.k && a.n == b.n) w := by
  have hu := Try.underlying2
  have hu8 := Try.underlying5
  obtain ⟨k, n⟩ := a
  obtain ⟨k2, n2⟩ := b
  have hS : Try.prog.underlying 40 = some (.struct (Try.prog.fieldsOf 40)) := by kernel_rfl
  have hp : Try.prog.stoodInHeld 40 = false := by kernel_rfl
  rw [run_equalIn_agg w (d + 1) 40 _ _ hS hp]
  simp only [Program.fieldsOf, Try.underlying40]
  go_simp
  by_cases h1 : k = k2 <;> by_cases h2 : n = n2 <;> simp [h1, h2]
theorem eq_i4 (d : Nat) (x y p q : Int) (w : World) : (Op.equalIn (d + 2) 42 (.agg #[.int .i64 x, .int .i64 y, .int .i64 p, .int .i64 q]) (.agg #[.int .i64 0, .int .i64 0, .int .i64 0, .int .i64 0])).run Try.prog w = .ok (x == 0 && y == 0 && p == 0 && q == 0) w := by
  have hu := Try.underlying2
  have ha := Try.underlying42
  rw [Op.equalIn]
  simp only [Sem.run_bind, run_underlying ha, Result.andThen_ok]
  simp only [Std.Legacy.Range.forIn_eq_forIn_range', Std.Legacy.Range.size, Nat.sub_zero, Nat.add_sub_cancel, Nat.div_one, List.range'_succ, List.range'_zero, List.forIn_cons, List.forIn_nil]
  go_simp
  by_cases h1 : x = 0 <;> by_cases h2 : y = 0 <;> by_cases h3 : p = 0 <;> by_cases h4 : q = 0 <;> simp [h1, h2, h3, h4]
theorem eq_u5 (d : Nat) (x y p q r : Int) (w : World) : (Op.equalIn (d + 2) 88 (.agg #[.int .u8 x, .int .u8 y, .int .u8 p, .int .u8 q, .int .u8 r]) (.agg #[.int .u8 0, .int .u8 0, .int .u8 0, .int .u8 0, .int .u8 0])).run Try.prog w = .ok (x == 0 && y == 0 && p == 0 && q == 0 && r == 0) w := by
  have hu := Try.underlying5
  have ha := Try.underlying88
  rw [Op.equalIn]
  simp only [Sem.run_bind, run_underlying ha, Result.andThen_ok]
  simp only [Std.Legacy.Range.forIn_eq_forIn_range', Std.Legacy.Range.size, Nat.sub_zero, Nat.add_sub_cancel, Nat.div_one, List.range'_succ, List.range'_zero, List.forIn_cons, List.forIn_nil]
  go_simp
  by_cases h1 : x = 0 <;> by_cases h2 : y = 0 <;> by_cases h3 : p = 0 <;> by_cases h4 : q = 0 <;> by_cases h5 : r = 0 <;> simp [h1, h2, h3, h4, h5]
def zlnB (l : Ln) : Bool := l.k == 0 && l.n == 0
theorem eq_zln (d : Nat) (l : Ln) (w : World) : (Op.equalIn (d + 2) 40 (.agg #[.int .u8 l.k, .int .i64 l.n]) (.agg #[.int .u8 0, .int .i64 0])).run Try.prog w = .ok (zlnB l) w := eq_len d l ⟨0, 0⟩ w
set_option maxRecDepth 100000 in
set_option maxHeartbeats 4000000 in
theorem eq_l4 (d : Nat) (l0 l1 l2 l3 : Ln) (w : World) : (Op.equalIn (d + 3) 41 (.agg #[.int .u8 l0.k, .int .i64 l0.n, .int .u8 l1.k, .int .i64 l1.n, .int .u8 l2.k, .int .i64 l2.n, .int .u8 l3.k, .int .i64 l3.n]) (.agg #[.int .u8 0, .int .i64 0, .int .u8 0, .int .i64 0, .int .u8 0, .int .i64 0, .int .u8 0, .int .i64 0])).run Try.prog w = .ok (zlnB l0 && zlnB l1 && zlnB l2 && zlnB l3) w := by
  have ha := Try.underlying41
  have hu := Try.underlying2
  have hu8 := Try.underlying5
  have hS : Try.prog.underlying 40 = some (.struct (Try.prog.fieldsOf 40)) := by kernel_rfl
  have hp : Try.prog.stoodInHeld 40 = false := by kernel_rfl
  have hE : ∀ (a b : Array Value) (w : World), (Op.equalIn (d + 2) 40 (.agg a) (.agg b)).run Try.prog w = (Op.eqFields (d + 1) a b (Try.prog.fieldsOf 40).toList).run Try.prog w := fun a b w => run_equalIn_agg w (d + 1) _ a b hS hp
  have hF := Try.underlying40
  rw [Op.equalIn]
  simp only [Sem.run_bind, run_underlying ha, Result.andThen_ok]
  simp only [Std.Legacy.Range.forIn_eq_forIn_range', Std.Legacy.Range.size, Nat.sub_zero, Nat.add_sub_cancel, Nat.div_one, List.range'_succ, List.range'_zero, List.forIn_cons, List.forIn_nil]
  simp only [Program.fieldsOf, hF] at hE
  go_simp
  by_cases hl0k : l0.k = 0
  rotate_left
  · simp [zlnB, hl0k]
  by_cases hl0n : l0.n = 0
  rotate_left
  · simp [zlnB, hl0k, hl0n]
  by_cases hl1k : l1.k = 0
  rotate_left
  · simp [zlnB, hl0k, hl0n, hl1k]
  by_cases hl1n : l1.n = 0
  rotate_left
  · simp [zlnB, hl0k, hl0n, hl1k, hl1n]
  by_cases hl2k : l2.k = 0
  rotate_left
  · simp [zlnB, hl0k, hl0n, hl1k, hl1n, hl2k]
  by_cases hl2n : l2.n = 0
  rotate_left
  · simp [zlnB, hl0k, hl0n, hl1k, hl1n, hl2k, hl2n]
  by_cases hl3k : l3.k = 0
  rotate_left
  · simp [zlnB, hl0k, hl0n, hl1k, hl1n, hl2k, hl2n, hl3k]
  by_cases hl3n : l3.n = 0
  rotate_left
  · simp [zlnB, hl0k, hl0n, hl1k, hl1n, hl2k, hl2n, hl3k, hl3n]
  simp [zlnB, hl0k, hl0n, hl1k, hl1n, hl2k, hl2n, hl3k, hl3n]
set_option maxRecDepth 100000 in
set_option maxHeartbeats 4000000 in
theorem eq_l7 (d : Nat) (l0 l1 l2 l3 l4 l5 l6 : Ln) (w : World) : (Op.equalIn (d + 3) 89 (.agg #[.int .u8 l0.k, .int .i64 l0.n, .int .u8 l1.k, .int .i64 l1.n, .int .u8 l2.k, .int .i64 l2.n, .int .u8 l3.k, .int .i64 l3.n, .int .u8 l4.k, .int .i64 l4.n, .int .u8 l5.k, .int .i64 l5.n, .int .u8 l6.k, .int .i64 l6.n]) (.agg #[.int .u8 0, .int .i64 0, .int .u8 0, .int .i64 0, .int .u8 0, .int .i64 0, .int .u8 0, .int .i64 0, .int .u8 0, .int .i64 0, .int .u8 0, .int .i64 0, .int .u8 0, .int .i64 0])).run Try.prog w = .ok (zlnB l0 && zlnB l1 && zlnB l2 && zlnB l3 && zlnB l4 && zlnB l5 && zlnB l6) w := by
  have ha := Try.underlying89
  have hu := Try.underlying2
  have hu8 := Try.underlying5
  have hS : Try.prog.underlying 40 = some (.struct (Try.prog.fieldsOf 40)) := by kernel_rfl
  have hp : Try.prog.stoodInHeld 40 = false := by kernel_rfl
  have hE : ∀ (a b : Array Value) (w : World), (Op.equalIn (d + 2) 40 (.agg a) (.agg b)).run Try.prog w = (Op.eqFields (d + 1) a b (Try.prog.fieldsOf 40).toList).run Try.prog w := fun a b w => run_equalIn_agg w (d + 1) _ a b hS hp
  have hF := Try.underlying40
  rw [Op.equalIn]
  simp only [Sem.run_bind, run_underlying ha, Result.andThen_ok]
  simp only [Std.Legacy.Range.forIn_eq_forIn_range', Std.Legacy.Range.size, Nat.sub_zero, Nat.add_sub_cancel, Nat.div_one, List.range'_succ, List.range'_zero, List.forIn_cons, List.forIn_nil]
  simp only [Program.fieldsOf, hF] at hE
  go_simp
  by_cases hl0k : l0.k = 0
  rotate_left
  · simp [zlnB, hl0k]
  by_cases hl0n : l0.n = 0
  rotate_left
  · simp [zlnB, hl0k, hl0n]
  by_cases hl1k : l1.k = 0
  rotate_left
  · simp [zlnB, hl0k, hl0n, hl1k]
  by_cases hl1n : l1.n = 0
  rotate_left
  · simp [zlnB, hl0k, hl0n, hl1k, hl1n]
  by_cases hl2k : l2.k = 0
  rotate_left
  · simp [zlnB, hl0k, hl0n, hl1k, hl1n, hl2k]
  by_cases hl2n : l2.n = 0
  rotate_left
  · simp [zlnB, hl0k, hl0n, hl1k, hl1n, hl2k, hl2n]
  by_cases hl3k : l3.k = 0
  rotate_left
  · simp [zlnB, hl0k, hl0n, hl1k, hl1n, hl2k, hl2n, hl3k]
  by_cases hl3n : l3.n = 0
  rotate_left
  · simp [zlnB, hl0k, hl0n, hl1k, hl1n, hl2k, hl2n, hl3k, hl3n]
  by_cases hl4k : l4.k = 0
  rotate_left
  · simp [zlnB, hl0k, hl0n, hl1k, hl1n, hl2k, hl2n, hl3k, hl3n, hl4k]
  by_cases hl4n : l4.n = 0
  rotate_left
  · simp [zlnB, hl0k, hl0n, hl1k, hl1n, hl2k, hl2n, hl3k, hl3n, hl4k, hl4n]
  by_cases hl5k : l5.k = 0
  rotate_left
  · simp [zlnB, hl0k, hl0n, hl1k, hl1n, hl2k, hl2n, hl3k, hl3n, hl4k, hl4n, hl5k]
  by_cases hl5n : l5.n = 0
  rotate_left
  · simp [zlnB, hl0k, hl0n, hl1k, hl1n, hl2k, hl2n, hl3k, hl3n, hl4k, hl4n, hl5k, hl5n]
  by_cases hl6k : l6.k = 0
  rotate_left
  · simp [zlnB, hl0k, hl0n, hl1k, hl1n, hl2k, hl2n, hl3k, hl3n, hl4k, hl4n, hl5k, hl5n, hl6k]
  by_cases hl6n : l6.n = 0
  rotate_left
  · simp [zlnB, hl0k, hl0n, hl1k, hl1n, hl2k, hl2n, hl3k, hl3n, hl4k, hl4n, hl5k, hl5n, hl6k, hl6n]
  simp [zlnB, hl0k, hl0n, hl1k, hl1n, hl2k, hl2n, hl3k, hl3n, hl4k, hl4n, hl5k, hl5n, hl6k, hl6n]
end Go.Proofs.Ytnolbmfjgfojhaa
