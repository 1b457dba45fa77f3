/- Layer 2: rectangles and sides against each other. -/
import Derived.Test.YtphckjnmbbjenaaEdW
import Derived.Laws.StructEq
namespace Go.Proofs.Ytphckjnmbbjenaa
open Go.RowKit
theorem eq_rect (a b : Rc) (w : World) : (Op.equalIn 10000 33 (.agg a.cs) (.agg b.cs)).run Try.prog w = .ok (a.x == b.x && a.y == b.y && a.w == b.w && a.h == b.h) w := by
  have hu := Try.underlying2
  have a3 := Try.isAgg2
  have z3 := Try.sizeOf2
  obtain ⟨x, y, p, q⟩ := a
  obtain ⟨x2, y2, p2, q2⟩ := b
  have hS : Try.prog.underlying 33 = some (.struct (Try.prog.fieldsOf 33)) := by kernel_rfl
  have hp : Try.prog.stoodInHeld 33 = false := by kernel_rfl
  rw [show (10000 : Nat) = 9999 + 1 from rfl, run_equalIn_agg w 9999 33 _ _ hS hp]
  simp only [Program.fieldsOf, Try.underlying33]
  go_simp
  by_cases h1 : x = x2 <;> by_cases h2 : y = y2 <;> by_cases h3 : p = p2 <;> by_cases h4 : q = q2 <;> simp [h1, h2, h3, h4]
theorem eq_arr (a b : Rc) (w : World) : (Op.equalIn 10000 24 (.agg a.cs) (.agg b.cs)).run Try.prog w = .ok (a.x == b.x && a.y == b.y && a.w == b.w && a.h == b.h) w := by
  have hu := Try.underlying2
  have ha := Try.underlying24
  have a3 := Try.isAgg2
  have z3 := Try.sizeOf2
  obtain ⟨x, y, p, q⟩ := a
  obtain ⟨x2, y2, p2, q2⟩ := b
  rw [show (10000 : Nat) = 9999 + 1 from rfl, Op.equalIn]
  simp only [Sem.run_bind, run_underlying ha, Result.andThen_ok]
  simp only [Std.Legacy.Range.forIn_eq_forIn_range', Std.Legacy.Range.size, Nat.sub_zero, Nat.add_sub_cancel, Nat.div_one, List.range'_succ, List.range'_zero, List.forIn_cons, List.forIn_nil]
  go_simp
  by_cases h1 : x = x2 <;> by_cases h2 : y = y2 <;> by_cases h3 : p = p2 <;> by_cases h4 : q = q2 <;> simp [h1, h2, h3, h4]
end Go.Proofs.Ytphckjnmbbjenaa
