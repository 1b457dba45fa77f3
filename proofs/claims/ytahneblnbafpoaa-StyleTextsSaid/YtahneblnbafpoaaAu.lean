/- Layer 1: cut, within, size (walks). -/
import Derived.Test.YtahneblnbafpoaaU
namespace Go.Proofs.Ytahneblnbafpoaa
open Go.RowKit

def cutV (x : Int) : Int := if 1099511627776 < x then 1099511627776 else if x < -1099511627776 then -1099511627776 else x
def cutB (x : Int) : Bool := decide (1099511627776 < x) || decide (x < -1099511627776)

set_option maxHeartbeats 400000 in
theorem au_cut (x : Int) (w : World) : Calls Try.prog 23 #[.int .i64 x] w fun e w' => e = .returned (.tuple #[.int .i64 (cutV x), .bool (cutB x)]) ∧ w = w' := by
  go_enter Try.func23, Try.ntmps23
  go_wp2
  all_goals go_ret2
  all_goals (refine ⟨ret2 ?_ ?_, rfl⟩ <;> simp [cutV, cutB] <;> omega)

def withinV (x l m : Int) : Int := max l (min x m)
set_option maxHeartbeats 400000 in
theorem au_within (x l m : Int) (w : World) : Calls Try.prog 28 #[.int .i64 x, .int .i64 l, .int .i64 m] w fun e w' => e = .returned (.int .i64 (withinV x l m)) ∧ w = w' := by
  go_enter Try.func28, Try.ntmps28
  go_wp2
  all_goals go_ret
  all_goals (refine ⟨ret1 ?_, rfl⟩; unfold withinV; omega)
set_option maxHeartbeats 400000 in
theorem ref_within (x l m : Int) (w : World) : Calls Try.prog 29 #[.int .i64 x, .int .i64 l, .int .i64 m] w fun e w' => e = .returned (.int .i64 (withinV x l m)) ∧ w = w' := by
  go_enter Try.func29, Try.ntmps29
  go_wp2
  all_goals go_ret
  all_goals (refine ⟨ret1 ?_, rfl⟩; unfold withinV; omega)
set_option maxHeartbeats 400000 in
theorem size_any (x : Int) (h1 : -9223372036854775808 ≤ x) (h2 : x ≤ 9223372036854775807) (w : World) : Calls Try.prog 60 #[.int .i64 x] w fun e w' => e = .returned (.int .u64 (x.natAbs : Int)) ∧ w = w' := by
  go_enter Try.func60, Try.ntmps60
  go_wp2
  all_goals go_ret
  all_goals (refine ⟨ret1 ?_, rfl⟩; (try simp only [IntKind.wrap_u64]); omega)
end Go.Proofs.Ytahneblnbafpoaa
