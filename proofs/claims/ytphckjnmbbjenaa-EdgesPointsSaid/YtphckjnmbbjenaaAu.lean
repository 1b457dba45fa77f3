/- Layer 1: cut (walk). -/
import Derived.Test.YtphckjnmbbjenaaU
namespace Go.Proofs.Ytphckjnmbbjenaa
open Go.RowKit

def cutV (x : Int) : Int := if 1099511627776 < x then 1099511627776 else if x < -1099511627776 then -1099511627776 else x
def cutB (x : Int) : Bool := decide (1099511627776 < x) || decide (x < -1099511627776)

set_option maxHeartbeats 400000 in
theorem au_cut (x : Int) (w : World) : Calls Try.prog 41 #[.int .i64 x] w fun e w' => e = .returned (.tuple #[.int .i64 (cutV x), .bool (cutB x)]) ∧ w = w' := by
  go_enter Try.func41, Try.ntmps41
  go_wp2
  all_goals go_ret2
  all_goals (refine ⟨ret2 ?_ ?_, rfl⟩ <;> simp [cutV, cutB] <;> omega)

end Go.Proofs.Ytphckjnmbbjenaa
